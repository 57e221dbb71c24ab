/- Lemmas. -/
import Derived.Test.YtmkcacgmnnlddaaGreatRows
import Derived.Test.YtmkcacgmnnlddaaGreatPCoarsenM24
import Derived.Test.YtmkcacgmnnlddaaGreatPCoarsenM09
import Derived.Test.YtmkcacgmnnlddaaGreatPCoarsenM10
namespace Go.Proofs.YtmkcacgmnnlddaaGreat
section
open Go.RowKit

def TrsIx (n:Nat) (ts:List TriD):Prop:=∀ k,k < ts.length→TrIx n (pix ts k)
instance (n:Nat) (ts:List TriD):Decidable (TrsIx n ts):=by unfold TrsIx;infer_instance
/-- No point lies inside the edge from a to b. -/
def NoIn1 (n:Nat) (xs ys:List Int) (a b:Int):Prop:=∀ c:Nat,c < n→(c:Int)≠a→(c:Int)≠b→¬ insI xs ys a b c
instance (n:Nat) (xs ys:List Int) (a b:Int):Decidable (NoIn1 n xs ys a b):=by unfold NoIn1;infer_instance
def NoIn (n:Nat) (xs ys:List Int) (ts:List TriD):Prop:=∀ k,k < ts.length→NoIn1 n xs ys (pix ts k).a (pix ts k).b∧NoIn1 n xs ys (pix ts k).b (pix ts k).c∧NoIn1 n xs ys (pix ts k).c (pix ts k).a
instance (n:Nat) (xs ys:List Int) (ts:List TriD):Decidable (NoIn n xs ys ts):=by unfold NoIn;infer_instance
theorem trs_lit {w:World}{g n c:Nat}{l:List TriD}(h:RdTS w (some ⟨g,0,none⟩) n c l) {k:Nat}(hk:k < n) :
    w.cell? ⟨g, k * 5, none⟩ = some (.int .i64 (pix l k).a) ∧ w.cell? ⟨g, k * 5 + 1, none⟩ = some (.int .i64 (pix l k).b) ∧ w.cell? ⟨g, k * 5 + 2, none⟩ = some (.int .i64 (pix l k).c) ∧
      w.cell? ⟨g,k * 5+3,none⟩=some (.int .i64 (pix l k).region)∧w.cell? ⟨g,k * 5+4,none⟩=some (.int .i64 (pix l k).level):=by
  obtain⟨_,e,_,hc⟩:=h.cells k hk
  cases e
  rw[Addr.add_lit,Nat.zero_add] at hc
  exact hc

set_option maxRecDepth 100000 in
set_option maxHeartbeats 16000000 in
theorem hasInside_no (w:World) {gp gx gy n cp cx cy:Nat}{xs ys:List Int}(hx:RdI w (some ⟨gx,0,none⟩) n cx xs) (hy:RdI w (some ⟨gy,0,none⟩) n cy ys) (hB:PlB n xs ys) {gt m ct:Nat}{ts:List TriD}(ht:RdTS w (some ⟨gt,0,none⟩) m ct ts) (hix0:TrsIx n ts) (hno:NoIn n xs ys ts) (hn40:n≤1048576) :
    Calls Tryz.prog 34 #[.agg #[.slice (some ⟨gp,0,none⟩) n cp,.slice (some ⟨gx,0,none⟩) n cx,.slice (some ⟨gy,0,none⟩) n cy],.slice (some ⟨gt,0,none⟩) m ct] w fun e w'=> e=.returned (.bool false)∧Bl w w':=by
  have hns:=hx.small
  have hms:=ht.small
  have hlen:=Lib.hid ht.len
  have hix0:=Lib.hid hix0;rename_i h_;clear h_
  have hno:=Lib.hid hno;rename_i h_;clear h_
  go_enter Tryz.func34,Tryz.ntmps34
  go_wp2_with fail
  refine wp_gen (fun W=> Bl w W∧Blk W w.heap.size 62 #[.slice (some ⟨gp,0,none⟩) n cp,.slice (some ⟨gx,0,none⟩) n cx,.slice (some ⟨gy,0,none⟩) n cy]) ⟨slc,bts⟩ ?_
  rintro W ⟨hbW,hBx⟩
  go_loopw [14] (fun v wr=> ∃ k:Nat,k≤m∧v=.int .i64 (k:Int)∧Bl W wr) (fun v _=> m - (intOf v).toNat)
  case atStart=> exact⟨0,by omega,rfl,Bl.refl _⟩
  case round =>
    obtain⟨k,hk,rfl,hbw⟩:=hrel
    obtain⟨wo,rfl⟩:∃ wo:World,wo=wr:=⟨_,rfl⟩
    by_cases hkm:k < m
    · have hki:(k:Int) < (m:Int):=by omega
      obtain⟨c0,c1,c2,c3,c4⟩:=trs_lit (RdTS.bl ht (hbW.next hbw)) hkm
      obtain⟨⟨ta0,ta1⟩,⟨tb0,tb1⟩,tc0,tc1⟩:=hix0.out k (by rw[hlen.out];exact hkm)
      obtain⟨n1,n2,n3⟩:=hno.out k (by rw[hlen.out];exact hkm)
      have h1:=Lib.hid n1
      have h2:=Lib.hid n2
      have h3:=Lib.hid n3
      clear n1 n2 n3
      obtain⟨t,hte⟩:∃ t,pix ts k=t:=⟨_,rfl⟩
      rw[hte] at c0 c1 c2 c3 c4 ta0 ta1 tb0 tb1 tc0 tc1 h1 h2 h3
      clear hte
      go_wp2_with fail
      refine calls_gen (fun W2=> Bl wo W2) slc ?_
      intro W2 hb2
      clear c0 c1 c2 c3 c4
      refine(corners_eq _ t).mono ?_
      rintro e w4 ⟨rfl,rfl⟩
      go_wp2_with fail
      refine wp_gen (fun W3=> Bl W2 W3∧∃ g7,Blk W3 g7 66 #[.int .i64 t.a,.int .i64 t.b,.int .i64 t.c]∧g7=W2.heap.size+1+1) ⟨by exact slc,_,by exact bts,rfl⟩ ?_
      rintro W3 ⟨hb3,g7,h7,hg7⟩
      rw[← hg7]
      clear hg7
      have hbq:Bl wo W3:=hb2.next hb3
      have hBx:=hBx.bl (hbw.next hbq)
      go_loopw [21] (fun v wi=> ∃ i:Nat,i≤3∧v=.int .i64 (i:Int)∧Bl W3 wi) (fun v _=> 3 - (intOf v).toNat)
      case atStart=> exact⟨0,by omega,rfl,Bl.refl _⟩
      case round =>
        obtain⟨i,hi,rfl,hbi⟩:=hrel
        rcases(show i=0∨i=1∨i=2∨i=3 by omega) with rfl | rfl | rfl | rfl
        · skip
          have e0:((0:Nat):Int)=0:=rfl
          rw[e0]
          clear e0 hi
          obtain⟨wj,rfl⟩:∃ wj:World,wj=wr:=⟨_,rfl⟩
          have hix:∀ W:World,(Instr.index 66 (.agg #[.int .i64 t.a,.int .i64 t.b,.int .i64 t.c]) (.int .i64 0)).run Tryz.prog W=.ok (.int .i64 t.a) W:=fun _=> by kernel_rfl
          have hBx2:=hBx.bl hbi
          obtain⟨r0,r1,r2⟩:=bx3 hBx2
          obtain⟨y0,y1,y2⟩:=bx3 (h7.bl hbi)
          have hin:=Lib.hid h1.out
          have hb00:=(hbW.next hbw).next hbq
          have hb0:=hb00.next hbi
          go_wp2_with fail
          go_loopw [33] (fun v wr=> ∃ c:Nat,c≤n∧v=.int .i64 (c:Int)∧Bl wj wr) (fun v _=> n - (intOf v).toNat)
          case atStart=> exact⟨0,by omega,rfl,Bl.refl _⟩
          case round =>
            clear r0 r1 r2 y0 y1 y2
            obtain⟨c,hc,rfl,hbc⟩:=hrel
            obtain⟨wp,rfl⟩:∃ wp:World,wp=wr:=⟨_,rfl⟩
            obtain⟨r0,r1,r2⟩:=bx3 (hBx2.bl hbc)
            by_cases hcn:c < n
            · have hci:(c:Int) < (n:Int):=by omega
              by_cases hca:(c:Int)=t.a
              · have hda:decide ((c:Int)=t.a)=true:=by simp[hca]
                have hca:=Lib.hid hca;rename_i h_;clear h_
                go_wp2_with fail
                go_roundw
                case rel=> exact⟨c+1,by omega,by go_num,hbc⟩
                case measure=> simp[intOf];omega
              · have hda:decide ((c:Int)=t.a)=false:=by simp[hca]
                by_cases hcb:(c:Int)=t.b
                · have hdb:decide ((c:Int)=t.b)=true:=by simp[hcb]
                  have hca:=Lib.hid hca;rename_i h_;clear h_
                  have hcb:=Lib.hid hcb;rename_i h_;clear h_
                  go_wp2_with fail
                  go_roundw
                  case rel=> exact⟨c+1,by omega,by go_num,hbc⟩
                  case measure=> simp[intOf];omega
                · have hdb:decide ((c:Int)=t.b)=false:=by simp[hcb]
                  have hbb:=hb0.next hbc
                  have hno1:=Lib.hid (hin.out c hcn hca hcb)
                  go_wp2_with (go_at_call 65;(with_reducible refine(isInside_no _ (hx.bl slc) (hy.bl slc) hB t.a t.b (c:Int) ta0 ta1 tb0 tb1 (by omega) (by omega) hno1.out).mono ?_);rintro e v0 ⟨rfl,hv0⟩)
                  go_roundw
                  case rel=> exact⟨c+1,by omega,by go_num,hbc.next hv0⟩
                  case measure=> simp[intOf];omega
            · obtain rfl:c=n:=by omega
              have hcn2:¬ (c:Int) < (c:Int):=by omega
              go_wp2_with fail
              go_roundw
              case rel=> exact⟨1,by omega,rfl,hbi.next hbc⟩
              case measure=> simp[intOf]
        · skip
          have e0:((1:Nat):Int)=1:=rfl
          rw[e0]
          clear e0 hi
          obtain⟨wj,rfl⟩:∃ wj:World,wj=wr:=⟨_,rfl⟩
          have hix:∀ W:World,(Instr.index 66 (.agg #[.int .i64 t.a,.int .i64 t.b,.int .i64 t.c]) (.int .i64 1)).run Tryz.prog W=.ok (.int .i64 t.b) W:=fun _=> by kernel_rfl
          have hBx2:=hBx.bl hbi
          obtain⟨r0,r1,r2⟩:=bx3 hBx2
          obtain⟨y0,y1,y2⟩:=bx3 (h7.bl hbi)
          have hin:=Lib.hid h2.out
          have hb00:=(hbW.next hbw).next hbq
          have hb0:=hb00.next hbi
          go_wp2_with fail
          go_loopw [33] (fun v wr=> ∃ c:Nat,c≤n∧v=.int .i64 (c:Int)∧Bl wj wr) (fun v _=> n - (intOf v).toNat)
          case atStart=> exact⟨0,by omega,rfl,Bl.refl _⟩
          case round =>
            clear r0 r1 r2 y0 y1 y2
            obtain⟨c,hc,rfl,hbc⟩:=hrel
            obtain⟨wp,rfl⟩:∃ wp:World,wp=wr:=⟨_,rfl⟩
            obtain⟨r0,r1,r2⟩:=bx3 (hBx2.bl hbc)
            by_cases hcn:c < n
            · have hci:(c:Int) < (n:Int):=by omega
              by_cases hca:(c:Int)=t.b
              · have hda:decide ((c:Int)=t.b)=true:=by simp[hca]
                have hca:=Lib.hid hca;rename_i h_;clear h_
                go_wp2_with fail
                go_roundw
                case rel=> exact⟨c+1,by omega,by go_num,hbc⟩
                case measure=> simp[intOf];omega
              · have hda:decide ((c:Int)=t.b)=false:=by simp[hca]
                by_cases hcb:(c:Int)=t.c
                · have hdb:decide ((c:Int)=t.c)=true:=by simp[hcb]
                  have hca:=Lib.hid hca;rename_i h_;clear h_
                  have hcb:=Lib.hid hcb;rename_i h_;clear h_
                  go_wp2_with fail
                  go_roundw
                  case rel=> exact⟨c+1,by omega,by go_num,hbc⟩
                  case measure=> simp[intOf];omega
                · have hdb:decide ((c:Int)=t.c)=false:=by simp[hcb]
                  have hbb:=hb0.next hbc
                  have hno1:=Lib.hid (hin.out c hcn hca hcb)
                  go_wp2_with (go_at_call 65;(with_reducible refine(isInside_no _ (hx.bl slc) (hy.bl slc) hB t.b t.c (c:Int) tb0 tb1 tc0 tc1 (by omega) (by omega) hno1.out).mono ?_);rintro e v0 ⟨rfl,hv0⟩)
                  go_roundw
                  case rel=> exact⟨c+1,by omega,by go_num,hbc.next hv0⟩
                  case measure=> simp[intOf];omega
            · obtain rfl:c=n:=by omega
              have hcn2:¬ (c:Int) < (c:Int):=by omega
              go_wp2_with fail
              go_roundw
              case rel=> exact⟨2,by omega,rfl,hbi.next hbc⟩
              case measure=> simp[intOf]
        · skip
          have e0:((2:Nat):Int)=2:=rfl
          rw[e0]
          clear e0 hi
          obtain⟨wj,rfl⟩:∃ wj:World,wj=wr:=⟨_,rfl⟩
          have hix:∀ W:World,(Instr.index 66 (.agg #[.int .i64 t.a,.int .i64 t.b,.int .i64 t.c]) (.int .i64 2)).run Tryz.prog W=.ok (.int .i64 t.c) W:=fun _=> by kernel_rfl
          have hBx2:=hBx.bl hbi
          obtain⟨r0,r1,r2⟩:=bx3 hBx2
          obtain⟨y0,y1,y2⟩:=bx3 (h7.bl hbi)
          have hin:=Lib.hid h3.out
          have hb00:=(hbW.next hbw).next hbq
          have hb0:=hb00.next hbi
          go_wp2_with fail
          go_loopw [33] (fun v wr=> ∃ c:Nat,c≤n∧v=.int .i64 (c:Int)∧Bl wj wr) (fun v _=> n - (intOf v).toNat)
          case atStart=> exact⟨0,by omega,rfl,Bl.refl _⟩
          case round =>
            clear r0 r1 r2 y0 y1 y2
            obtain⟨c,hc,rfl,hbc⟩:=hrel
            obtain⟨wp,rfl⟩:∃ wp:World,wp=wr:=⟨_,rfl⟩
            obtain⟨r0,r1,r2⟩:=bx3 (hBx2.bl hbc)
            by_cases hcn:c < n
            · have hci:(c:Int) < (n:Int):=by omega
              by_cases hca:(c:Int)=t.c
              · have hda:decide ((c:Int)=t.c)=true:=by simp[hca]
                have hca:=Lib.hid hca;rename_i h_;clear h_
                go_wp2_with fail
                go_roundw
                case rel=> exact⟨c+1,by omega,by go_num,hbc⟩
                case measure=> simp[intOf];omega
              · have hda:decide ((c:Int)=t.c)=false:=by simp[hca]
                by_cases hcb:(c:Int)=t.a
                · have hdb:decide ((c:Int)=t.a)=true:=by simp[hcb]
                  have hca:=Lib.hid hca;rename_i h_;clear h_
                  have hcb:=Lib.hid hcb;rename_i h_;clear h_
                  go_wp2_with fail
                  go_roundw
                  case rel=> exact⟨c+1,by omega,by go_num,hbc⟩
                  case measure=> simp[intOf];omega
                · have hdb:decide ((c:Int)=t.a)=false:=by simp[hcb]
                  have hbb:=hb0.next hbc
                  have hno1:=Lib.hid (hin.out c hcn hca hcb)
                  go_wp2_with (go_at_call 65;(with_reducible refine(isInside_no _ (hx.bl slc) (hy.bl slc) hB t.c t.a (c:Int) tc0 tc1 ta0 ta1 (by omega) (by omega) hno1.out).mono ?_);rintro e v0 ⟨rfl,hv0⟩)
                  go_roundw
                  case rel=> exact⟨c+1,by omega,by go_num,hbc.next hv0⟩
                  case measure=> simp[intOf];omega
            · obtain rfl:c=n:=by omega
              have hcn2:¬ (c:Int) < (c:Int):=by omega
              go_wp2_with fail
              go_roundw
              case rel=> exact⟨3,by omega,rfl,hbi.next hbc⟩
              case measure=> simp[intOf]
        · have e0:((3:Nat):Int)=3:=rfl
          rw[e0]
          clear e0 hi
          go_wp2_with fail
          go_roundw
          case rel=> exact⟨k+1,by omega,by go_num,(hbw.next hbq).next hbi⟩
          case measure=> simp[intOf];omega
    · obtain rfl:k=m:=by omega
      have hkm2:¬ (k:Int) < (k:Int):=by omega
      go_wp2_with fail
      go_ret
      exact⟨rfl,hbW.next hbw⟩
end

section
open Go.RowKit

theorem pts_lit {w:World}{g n c:Nat}{l:List PtD}(h:RdPS w (some ⟨g,0,none⟩) n c l) {k:Nat}(hk:k < n):PtAt w ⟨g,k * 6,none⟩ (pix l k):=by
  obtain⟨_,e,_,hc⟩:=h.cells k hk
  cases e
  rw[Addr.add_lit,Nat.zero_add] at hc
  exact hc
/-- Points that are valid and different. -/
def PtsOk (l:List PtD):Prop:=∀ k,k < l.length→OkP (pix l k)∧∀ j,j < k→eqP (pix l k) (pix l j)=false

set_option maxRecDepth 100000 in
set_option maxHeartbeats 16000000 in
theorem arePointsF_any (w:World) {s1:Bool}{A1:Option Addr}{n1 c1:Nat}{B1:Option Addr}{m1 d1:Nat}{t1:Bool}{C1:Option Addr}{i1 e1:Nat}{D1:Option Addr}{j1 f1:Nat}{q:PtD}{gb:Nat}(qb:Blk w gb 56 #[.bool s1,.slice A1 n1 c1,.slice B1 m1 d1,.bool t1,.slice C1 i1 e1,.slice D1 j1 f1]) (hx1:RdR w s1 A1 n1 c1 B1 m1 d1 q.x) (hy1:RdR w t1 C1 i1 e1 D1 j1 f1 q.y) {s2:Bool}{A2:Option Addr}{n2 c2:Nat}{B2:Option Addr}{m2 d2:Nat}{t2:Bool}{C2:Option Addr}{i2 e2:Nat}{D2:Option Addr}{j2 f2:Nat}{p:PtD}(hx:RdR w s2 A2 n2 c2 B2 m2 d2 p.x) (hy:RdR w t2 C2 i2 e2 D2 j2 f2 p.y) :
    Calls Tryz.prog 59 #[.agg #[.bool s2,.slice A2 n2 c2,.slice B2 m2 d2,.bool t2,.slice C2 i2 e2,.slice D2 j2 f2],.pointer (some ⟨gb,0,none⟩)] w fun en w'=> en=.returned (.bool (eqP q p))∧Bl w w':=by
  go_enter Tryz.func59,Tryz.ntmps59
  have eb:=qb.alloc (.cells #[.bool s2,.slice A2 n2 c2,.slice B2 m2 d2,.bool t2,.slice C2 i2 e2,.slice D2 j2 f2] 56)
  obtain⟨j0,j1,j2,j3,j4,j5⟩:=bx6 eb
  go_wp2_with fail
  refine(SamePoint_any _ (hx1.bl slc) (hy1.bl slc) (hx.bl slc) (hy.bl slc)).mono ?_
  rintro e w1 ⟨rfl,hb1⟩
  go_wp2_with fail
  go_ret
  exact⟨rfl,slc⟩
def NoEq (q:PtD) (l:List PtD):Prop:=∀ k,k < l.length→eqP q (pix l k)=false
set_option maxRecDepth 100000 in
set_option maxHeartbeats 4000000 in
theorem IndexEq_no (w:World) {s1:Bool}{A1:Option Addr}{n1 c1:Nat}{B1:Option Addr}{m1 d1:Nat}{t1:Bool}{C1:Option Addr}{i1 e1:Nat}{D1:Option Addr}{j1 f1:Nat}{q:PtD}{gb:Nat}(qb:Blk w gb 56 #[.bool s1,.slice A1 n1 c1,.slice B1 m1 d1,.bool t1,.slice C1 i1 e1,.slice D1 j1 f1]) (hx1:RdR w s1 A1 n1 c1 B1 m1 d1 q.x) (hy1:RdR w t1 C1 i1 e1 D1 j1 f1 q.y) {g9 n9 c9:Nat}{l:List PtD}(hl9:RdPS w (some ⟨g9,0,none⟩) n9 c9 l) (hno:NoEq q l) :
    Calls Tryz.prog 93 #[.slice (some ⟨g9,0,none⟩) n9 c9,.func (.func 59) #[] #[.pointer (some ⟨gb,0,none⟩)]] w fun e w'=> e=.returned (.int .i64 (-1))∧Bl w w':=by
  have hn:=hl9.small
  have hl:=Lib.hid hl9.len
  have hno:=Lib.hid hno;rename_i h_;clear h_
  go_enter Tryz.func93,Tryz.ntmps93
  go_wp2_with fail
  go_loopw [8] (fun i wr=> ∃ k:Nat,k≤n9∧i=.int .i64 (k:Int)∧Bl w wr) (fun i _=> n9 - (intOf i).toNat)
  case atStart=> exact⟨0,Nat.zero_le _,rfl,Bl.refl _⟩
  case round =>
    obtain⟨k9,hk,rfl,hbw⟩:=hrel
    by_cases hkn:k9 < n9
    · have hki:(k9:Int) < (n9:Int):=by omega
      obtain⟨s2,A2,n2,c2,B2,m2,d2,t2,C2,i2,e2,D2,j2,f2,⟨y0,y1,y2,y3,y4,y5⟩,hx,hy⟩:=pts_lit (RdPS.bl hl9 hbw) hkn
      have ho:=Lib.hid (hno.out k9 (by rw[hl.out];exact hkn))
      go_wp2_with fail
      refine(arePointsF_any _ (qb.bl hbw) (hx1.bl hbw) (hy1.bl hbw) hx hy).mono ?_
      rw[ho.out]
      rintro e w1 ⟨rfl,hb1⟩
      have hb2:Bl w w1:=slc
      clear hb1
      go_wp2_with fail
      go_roundw
      case rel=> exact⟨k9+1,by omega,by go_num,hb2⟩
      case measure=> simp[intOf];omega
    · obtain rfl:k9=n9:=by omega
      have hkm2:¬ (k9:Int) < (k9:Int):=by omega
      go_wp2_with fail
      go_ret
      exact⟨rfl,hbw⟩
theorem ContainsEq_no (w:World) {s1:Bool}{A1:Option Addr}{n1 c1:Nat}{B1:Option Addr}{m1 d1:Nat}{t1:Bool}{C1:Option Addr}{i1 e1:Nat}{D1:Option Addr}{j1 f1:Nat}{q:PtD}{gb:Nat}(qb:Blk w gb 56 #[.bool s1,.slice A1 n1 c1,.slice B1 m1 d1,.bool t1,.slice C1 i1 e1,.slice D1 j1 f1]) (hx1:RdR w s1 A1 n1 c1 B1 m1 d1 q.x) (hy1:RdR w t1 C1 i1 e1 D1 j1 f1 q.y) {g9 n9 c9:Nat}{l:List PtD}(hl9:RdPS w (some ⟨g9,0,none⟩) n9 c9 l) (hno:NoEq q l) :
    Calls Tryz.prog 58 #[.slice (some ⟨g9,0,none⟩) n9 c9,.func (.func 59) #[] #[.pointer (some ⟨gb,0,none⟩)]] w fun e w'=> e=.returned (.bool false)∧Bl w w':=by
  have hno:=Lib.hid hno;rename_i h_;clear h_
  go_enter Tryz.func58,Tryz.ntmps58
  go_wp2_with fail
  refine(IndexEq_no _ qb hx1 hy1 hl9 hno.out).mono ?_
  rintro e w1 ⟨rfl,hb⟩
  go_wp2_with fail
  go_ret
  exact⟨rfl,hb⟩
/-- The first elements of a slice of points. -/
theorem pts_take {w:World}{g n c:Nat}{l:List PtD}(h:RdPS w (some ⟨g,0,none⟩) n c l) {k:Nat}(hk:k≤n):RdPS w (some ⟨g,0,none⟩) k c (l.take k):=by
  refine⟨?_,Nat.le_trans hk h.cap,Nat.le_trans hk h.small,fun j hj=> ?_⟩
  · rw[List.length_take,h.len];omega
  · obtain⟨ad,e,hlt,hc⟩:=h.cells j (by omega)
    refine⟨ad,e,hlt,?_⟩
    have:pix (l.take k) j=pix l j:=by unfold pix;rw[List.getD_eq_getElem?_getD,List.getD_eq_getElem?_getD,List.getElem?_take_of_lt hj]
    rw[this]
    exact hc
set_option maxRecDepth 100000 in
set_option maxHeartbeats 16000000 in
theorem arePoints_yes (w:World) {g9 n9 c9:Nat}{l:List PtD}(hl9:RdPS w (some ⟨g9,0,none⟩) n9 c9 l) (hok:PtsOk l) (h3:3≤n9) (h40:n9≤40) :
    Calls Tryz.prog 28 #[.slice (some ⟨g9,0,none⟩) n9 c9] w fun e w'=> e=.returned (.bool true)∧Bl w w':=by
  have hl:=Lib.hid hl9.len
  have hcap:=hl9.cap
  have hok:=Lib.hid hok;rename_i h_;clear h_
  go_enter Tryz.func28,Tryz.ntmps28
  go_wp2_with fail
  go_loopw [7] (fun i wr=> ∃ k:Nat,k≤n9∧i=.int .i64 (k:Int)∧Bl w wr) (fun i _=> n9 - (intOf i).toNat)
  case atStart=> exact⟨0,Nat.zero_le _,rfl,Bl.refl _⟩
  case round =>
    obtain⟨k,hk,rfl,hbw⟩:=hrel
    obtain⟨wo,rfl⟩:∃ wo:World,wo=wr:=⟨_,rfl⟩
    by_cases hkn:k < n9
    · have hki:(k:Int) < (n9:Int):=by omega
      obtain⟨s1,A1,n1,c1,B1,m1,d1,t1,C1,i1,e1,D1,j1,f1,⟨y0,y1,y2,y3,y4,y5⟩,hx1,hy1⟩:=pts_lit (RdPS.bl hl9 hbw) hkn
      have hop:=Lib.hid (hok.out k (by rw[hl.out];exact hkn)).1
      have hne:NoEq (pix l k) (l.take k):=by
        intro j hj
        rw[List.length_take] at hj
        have:pix (l.take k) j=pix l j:=by unfold pix;rw[List.getD_eq_getElem?_getD,List.getD_eq_getElem?_getD,List.getElem?_take_of_lt (by omega)]
        rw[this]
        exact(hok.out k (by rw[hl.out];exact hkn)).2 j (by omega)
      have hne:=Lib.hid hne;rename_i h_;clear h_
      go_wp2_with fail
      refine calls_gen (fun W2=> Bl wo W2∧Blk W2 wo.heap.size 56 #[.bool s1,.slice A1 n1 c1,.slice B1 m1 d1,.bool t1,.slice C1 i1 e1,.slice D1 j1 f1]) ⟨slc,bts⟩ ?_
      rintro W2 ⟨hb2,qb⟩
      clear y0 y1 y2 y3 y4 y5
      refine(IsValidPoint_yes _ (hx1.bl hb2) (hy1.bl hb2) hop.out).mono ?_
      rintro e w3 ⟨rfl,hb3⟩
      have qb:=qb.bl hb3
      have hb4:=hb2.next hb3
      obtain⟨j0,j1,j2,j3,j4,j5⟩:=bx6 qb
      go_wp2_with fail
      refine(ContainsEq_no _ (by exact qb) (hx1.bl hb4) (hy1.bl hb4) (pts_take (RdPS.bl hl9 (hbw.next hb4)) (by omega)) hne.out).mono ?_
      rintro e w5 ⟨rfl,hb5⟩
      go_wp2_with fail
      go_roundw
      case rel=> exact⟨k+1,by omega,by go_num,(hbw.next hb4).next hb5⟩
      case measure=> simp[intOf];omega
    · obtain rfl:k=n9:=by omega
      have hkm2:¬ (k:Int) < (k:Int):=by omega
      go_wp2_with fail
      refine(within_yes _ (show (3:Int)≤(k:Int) by omega) (show (k:Int)≤40 by omega)).mono ?_
      rintro e w1 ⟨rfl,q1,rfl⟩
      go_wp2_with fail
      go_ret
      exact⟨rfl,by exact slc⟩
end

end Go.Proofs.YtmkcacgmnnlddaaGreat
