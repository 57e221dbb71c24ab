/- Lemmas. -/
import Derived.Test.YtjaapemopbbfaaaGreatRows
import Derived.Test.YtjaapemopbbfaaaGreatPWorstShapeM23
import Derived.Test.YtjaapemopbbfaaaGreatPWorstShapeM31
import Derived.Deep.Cut
import Derived.Deep.DeepCutAuto
import Derived.Test.YtjaapemopbbfaaaGreatPWorstShapeM22
import Derived.Test.YtjaapemopbbfaaaGreatPWorstShapeM21
import Derived.Test.YtjaapemopbbfaaaGreatPWorstShapeM29
import Derived.Test.YtjaapemopbbfaaaGreatPWorstShapeM30
namespace Go.Proofs.YtjaapemopbbfaaaGreat
section
open Go.RowKit

theorem FtI.neT {T TP:TypeId}{w:World}{A:Option Addr}{n c k g:Nat}{l:List Int}{bs:List Nat}(h:FtI T w A n c l bs) (hk:Wk k TP g w) (hne:T≠TP):∀ b ∈ bs,b≠g:=by
  intro b hm e
  subst e
  obtain⟨cs',h1,_⟩:=hk
  rcases h.2 with ⟨_,e2⟩ |⟨g',cs,_,_,hh,_,e2⟩
  · rw[e2] at hm;cases hm
  · rw[e2] at hm
    simp at hm
    subst hm
    have h3:w.heap[b]?=some (.cells cs' TP (0,0)):=h1
    rw[hh] at h3
    injection h3 with h3
    injection h3 with _ h3
    exact hne h3
theorem FtR.neT {T TP:TypeId}{w:World}{s:Bool}{A:Option Addr}{n c:Nat}{B:Option Addr}{m d k g:Nat}{r:RatD}{bs:List Nat}(h:FtR T w s A n c B m d r bs) (hk:Wk k TP g w) (hne:T≠TP):∀ b ∈ bs,b≠g:=by
  obtain⟨_,b1,b2,h1,h2,rfl⟩:=h
  intro b hb
  rcases List.mem_append.1 hb with hb | hb
  · exact h1.neT hk hne b hb
  · exact h2.neT hk hne b hb
end

section
open Go.RowKit
end

section
open Go.RowKit

/-- No point of a list lies to the left of the line from a to b. -/
def NoPos (a b:PtD) (l:List PtD):Prop:=∀ k,k < l.length→¬ 0 < sgnR (dblA a b (pix l k))
def NoTo (a b:PtD) (l:List PtD) (k:Nat):Prop:=∀ j,j < k→¬ 0 < sgnR (dblA a b (pix l j))
theorem NoTo.zero (a b:PtD) (l:List PtD):NoTo a b l 0:=fun j hj=> by omega
theorem NoTo.step {a b:PtD}{l:List PtD}{k:Nat}(h:NoTo a b l k) (h0:¬ 0 < sgnR (dblA a b (pix l k))):NoTo a b l (k+1):=by
  intro j hj
  rcases Nat.lt_succ_iff_lt_or_eq.1 hj with hj | rfl
  · exact h j hj
  · exact h0
end

section
open Go.RowKit

/-- A side of a triangle has no point of a list on its inner side. -/
def SepTo (a b c:PtD) (m:List PtD) (k:Nat):Prop:=(0 < k→¬ NoPos a b m)∧(1 < k→¬ NoPos b c m)∧(2 < k→¬ NoPos c a m)
def Sep3 (l m:List PtD):Prop:=∃ a b c,l=[a,b,c]∧(NoPos a b m∨NoPos b c m∨NoPos c a m)
open Classical in
noncomputable def sepB (l m:List PtD):Bool:=decide (Sep3 l m)
theorem sepB_yes {a b c:PtD}{m:List PtD}(h:NoPos a b m∨NoPos b c m∨NoPos c a m):sepB [a,b,c] m=true:=by
  unfold sepB
  simp only[decide_eq_true_eq]
  exact⟨a,b,c,rfl,h⟩
theorem sepB_no {a b c:PtD}{m:List PtD}(h:SepTo a b c m 3):sepB [a,b,c] m=false:=by
  unfold sepB
  simp only[decide_eq_false_iff_not]
  rintro ⟨a',b',c',e,hk⟩
  injection e with e1 e
  injection e with e2 e
  injection e with e3 e
  subst e1 e2 e3
  rcases hk with hk | hk | hk
  · exact h.1 (by omega) hk
  · exact h.2.1 (by omega) hk
  · exact h.2.2 (by omega) hk
end

section
open Go.RowKit

open Classical in
noncomputable def noB (a b:PtD) (l:List PtD) (k:Nat):Bool:=decide (NoTo a b l k)
theorem noB_zero (a b:PtD) (l:List PtD):noB a b l 0=true:=by unfold noB;simp only[decide_eq_true_eq];exact NoTo.zero _ _ _
theorem noB_yes {a b:PtD}{l:List PtD}{k:Nat}(h:noB a b l k=true):noB a b l (k+1)=decide (sgnR (dblA a b (pix l k))≤0):=by
  unfold noB at h ⊢
  simp only[decide_eq_true_eq] at h
  rw[decide_eq_decide]
  exact⟨fun hk=> Int.not_lt.1 (hk k (by omega)),fun hk=> h.step (Int.not_lt.2 hk)⟩
theorem noB_no {a b:PtD}{l:List PtD}{k:Nat}(h:noB a b l k=false):noB a b l (k+1)=false:=by
  unfold noB at h ⊢
  simp only[decide_eq_false_iff_not] at h ⊢
  exact fun hk=> h fun j hj=> hk j (by omega)
theorem noB_all {a b:PtD}{l:List PtD}{n:Nat}(hl:l.length=n):noB a b l n=true↔NoPos a b l:=by
  unfold noB
  simp only[decide_eq_true_eq]
  subst hl
  exact Iff.rfl

set_option maxRecDepth 100000 in
set_option maxHeartbeats 16000000 in
theorem l06Apart_three (w:World) {g c0:Nat}{p0 p1 p2:PtD}(h:RdPS w (some ⟨g,0,none⟩) 3 c0 [p0,p1,p2]) {A9:Option Addr}{n9 c9:Nat}{m9:List PtD}(hl9:RdPS w A9 n9 c9 m9) :
    Calls Tryz.prog 82 #[.slice (some ⟨g,0,none⟩) 3 c0,.slice A9 n9 c9] w fun e w'=> e=.returned (.bool (sepB [p0,p1,p2] m9))∧Bl w w':=by
  obtain⟨_,e0,hg,hc0⟩:=h.cells 0 (by omega)
  cases e0
  rw[Addr.add_lit] at hc0
  obtain⟨s,A,n,c,B,m,d,t,C,i,e,D,j,f,⟨x0,x1,x2,x3,x4,x5⟩,hX0,hY0⟩:=(show PtAt w ⟨g,0,none⟩ p0 from hc0)
  have x0:w.cell? ⟨g,0,none⟩=some (.bool s):=x0
  have x1:w.cell? ⟨g,1,none⟩=some (.slice A n c):=x1
  have x2:w.cell? ⟨g,2,none⟩=some (.slice B m d):=x2
  have x3:w.cell? ⟨g,3,none⟩=some (.bool t):=x3
  have x4:w.cell? ⟨g,4,none⟩=some (.slice C i e):=x4
  have x5:w.cell? ⟨g,5,none⟩=some (.slice D j f):=x5
  obtain⟨_,e0,hg,hc1⟩:=h.cells 1 (by omega)
  cases e0
  rw[Addr.add_lit] at hc1
  obtain⟨s',A',n',c',B',m',d',t',C',i',e',D',j',f',⟨y0,y1,y2,y3,y4,y5⟩,hX1,hY1⟩:=(show PtAt w ⟨g,6,none⟩ p1 from hc1)
  have y0:w.cell? ⟨g,6,none⟩=some (.bool s'):=y0
  have y1:w.cell? ⟨g,7,none⟩=some (.slice A' n' c'):=y1
  have y2:w.cell? ⟨g,8,none⟩=some (.slice B' m' d'):=y2
  have y3:w.cell? ⟨g,9,none⟩=some (.bool t'):=y3
  have y4:w.cell? ⟨g,10,none⟩=some (.slice C' i' e'):=y4
  have y5:w.cell? ⟨g,11,none⟩=some (.slice D' j' f'):=y5
  obtain⟨_,e0,hg,hc2⟩:=h.cells 2 (by omega)
  cases e0
  rw[Addr.add_lit] at hc2
  obtain⟨s2,A2,n2,c2,B2,m2,d2,t2,C2,i2,e2,D2,j2,f2,⟨z0,z1,z2,z3,z4,z5⟩,hX2,hY2⟩:=(show PtAt w ⟨g,12,none⟩ p2 from hc2)
  have z0:w.cell? ⟨g,12,none⟩=some (.bool s2):=z0
  have z1:w.cell? ⟨g,13,none⟩=some (.slice A2 n2 c2):=z1
  have z2:w.cell? ⟨g,14,none⟩=some (.slice B2 m2 d2):=z2
  have z3:w.cell? ⟨g,15,none⟩=some (.bool t2):=z3
  have z4:w.cell? ⟨g,16,none⟩=some (.slice C2 i2 e2):=z4
  have z5:w.cell? ⟨g,17,none⟩=some (.slice D2 j2 f2):=z5
  clear hc0 hc1 hc2
  have hsm:=hl9.small
  go_enter Tryz.func82,Tryz.ntmps82
  go_wp2_with fail
  go_loopw [12] (fun i wr=> ∃ k:Nat,k≤3∧i=.int .i64 (k:Int)∧SepTo p0 p1 p2 m9 k∧Bl w wr) (fun i _=> 3 - (intOf i).toNat)
  case atStart=> exact⟨0,by omega,rfl,⟨fun h=> by omega,fun h=> by omega,fun h=> by omega⟩,Bl.refl _⟩
  case round =>
    obtain⟨k,hk,rfl,hin,hbw⟩:=hrel
    rcases(show k=0∨k=1∨k=2∨k=3 by omega) with rfl | rfl | rfl | rfl
    · skip
      have e0:((0:Nat):Int)=0:=rfl
      rw[e0]
      clear e0 hk
      have hin:=Lib.hid hin;rename_i h_;clear h_
      obtain⟨wo,rfl⟩:∃ wo:World,wo=wr:=⟨_,rfl⟩
      have x0':wo.cell? ⟨g,0,none⟩=some (.bool s):=(Bl.cellOf (w:=w) (p:=⟨g,0,none⟩) hbw hg).trans x0
      have x1':wo.cell? ⟨g,1,none⟩=some (.slice A n c):=(Bl.cellOf (w:=w) (p:=⟨g,1,none⟩) hbw hg).trans x1
      have x2':wo.cell? ⟨g,2,none⟩=some (.slice B m d):=(Bl.cellOf (w:=w) (p:=⟨g,2,none⟩) hbw hg).trans x2
      have x3':wo.cell? ⟨g,3,none⟩=some (.bool t):=(Bl.cellOf (w:=w) (p:=⟨g,3,none⟩) hbw hg).trans x3
      have x4':wo.cell? ⟨g,4,none⟩=some (.slice C i e):=(Bl.cellOf (w:=w) (p:=⟨g,4,none⟩) hbw hg).trans x4
      have x5':wo.cell? ⟨g,5,none⟩=some (.slice D j f):=(Bl.cellOf (w:=w) (p:=⟨g,5,none⟩) hbw hg).trans x5
      go_wp2_with fail
      refine wp_gen (fun W=> Bl w W∧Blk W wo.heap.size 76 #[.bool s,.slice A n c,.slice B m d,.bool t,.slice C i e,.slice D j f]) ⟨slc,bts⟩ ?_
      clear x0' x1' x2' x3' x4' x5'
      rintro W ⟨hbW,qa⟩
      go_loopw [7,19] (fun b i wr=> ∃ k:Nat,k≤n9∧i=.int .i64 (k:Int)∧b=.bool (noB p0 p1 m9 k)∧Bl W wr) (fun _ i _=> n9 - (intOf i).toNat)
      case atStart=> exact⟨0,Nat.zero_le _,rfl,by rw[noB_zero],Bl.refl _⟩
      case round =>
        obtain⟨k,hk,rfl,rfl,hbi⟩:=hrel
        have qi:=qa.bl hbi
        have hbwi:=hbW.next hbi
        by_cases hkn:k < n9
        · have hki:(k:Int) < (n9:Int):=by omega
          obtain⟨ad,rfl,hlta,hca⟩:=(RdPS.bl hl9 hbwi).cells k hkn
          obtain⟨s5,A5,n5,c5,B5,m5,d5,t5,C5,i5,e5,D5,j5,f5,⟨g0,g1,g2,g3,g4,g5⟩,hx,hy⟩:=hca
          cases hb:noB p0 p1 m9 k
          · have hnx:=Lib.hid (noB_no hb)
            have hb:=Lib.hid hb;rename_i h_;clear h_
            go_wp2_with fail
            go_quiet (fail)
            go_wp2_with fail
            go_roundw
            case rel=> exact⟨k+1,by omega,by go_num,by rw[hnx.out],slc⟩
            case measure=> simp[intOf];omega
          · have hnx:=Lib.hid (noB_yes hb)
            have hb:=Lib.hid hb;rename_i h_;clear h_
            have hw:IntKind.i64.wrap 1=1:=by rfl
            go_wp2_with fail
            go_region_held3 (fun w' =>(w'.cell? ⟨wo.heap.size,0,none⟩=some (.bool s)∧w'.cell? ⟨wo.heap.size,1,none⟩=some (.slice A n c)∧w'.cell? ⟨wo.heap.size,2,none⟩=some (.slice B m d)∧w'.cell? ⟨wo.heap.size,3,none⟩=some (.bool t)∧w'.cell? ⟨wo.heap.size,4,none⟩=some (.slice C i e)∧w'.cell? ⟨wo.heap.size,5,none⟩=some (.slice D j f))∧(w'.cell? ⟨g,6,none⟩=some (.bool s')∧w'.cell? ⟨g,7,none⟩=some (.slice A' n' c')∧w'.cell? ⟨g,8,none⟩=some (.slice B' m' d')∧w'.cell? ⟨g,9,none⟩=some (.bool t')∧w'.cell? ⟨g,10,none⟩=some (.slice C' i' e')∧w'.cell? ⟨g,11,none⟩=some (.slice D' j' f'))∧(w'.cell? ⟨wr.heap.size,0,none⟩=some (.bool s5)∧w'.cell? ⟨wr.heap.size,1,none⟩=some (.slice A5 n5 c5)∧w'.cell? ⟨wr.heap.size,2,none⟩=some (.slice B5 m5 d5)∧w'.cell? ⟨wr.heap.size,3,none⟩=some (.bool t5)∧w'.cell? ⟨wr.heap.size,4,none⟩=some (.slice C5 i5 e5)∧w'.cell? ⟨wr.heap.size,5,none⟩=some (.slice D5 j5 f5))) (first | exact⟨bx6 (T:=76) (qi.bl slc),⟨(Bl.cellOf (w:=w) (p:=⟨g,6,none⟩) slc hg).trans y0,(Bl.cellOf (w:=w) (p:=⟨g,7,none⟩) slc hg).trans y1,(Bl.cellOf (w:=w) (p:=⟨g,8,none⟩) slc hg).trans y2,(Bl.cellOf (w:=w) (p:=⟨g,9,none⟩) slc hg).trans y3,(Bl.cellOf (w:=w) (p:=⟨g,10,none⟩) slc hg).trans y4,(Bl.cellOf (w:=w) (p:=⟨g,11,none⟩) slc hg).trans y5⟩,bx6 (T:=76) bts⟩) (first |(go_at_call 47;refine(sDoubleArea_any _ (hX0.bl slc) (hY0.bl slc) (hX1.bl slc) (hY1.bl slc) (hx.bl slc) (hy.bl slc)).mono ?_;rintro en w2 ⟨s3,A3,n3,c3,B3,m3,d3,rfl,hR,hb2⟩) |(go_at_call 80;refine(sRatSign_any _ hR.rd).mono ?_;rintro en w3 ⟨rfl,hb3⟩))
            go_wp2_with fail
            go_roundw
            case rel=> exact⟨k+1,by omega,by go_num,by rw[hnx.out],slc⟩
            case measure=> simp[intOf];omega
        · obtain rfl:k=n9:=by omega
          have hall:=Lib.hid (noB_all (a:=p0) (b:=p1) hl9.len)
          cases hb:noB p0 p1 m9 k
          · have hz:¬ NoPos p0 p1 m9:=fun h=> by have:=hall.out.2 h;rw[hb] at this;cases this
            have hin':SepTo p0 p1 p2 m9 1:=⟨fun _=> hz,fun h=> by omega,fun h=> by omega⟩
            have hin':=Lib.hid hin';rename_i h_;clear h_
            have hz:=Lib.hid hz;rename_i h_;clear h_
            have hb:=Lib.hid hb;rename_i h_;clear h_
            go_wp2_with fail
            go_roundw
            case rel=> exact⟨1,by omega,rfl,hin'.out,hbwi⟩
            case measure=> simp[intOf]
          · have hz:NoPos p0 p1 m9:=hall.out.1 hb
            have hv:=Lib.hid (sepB_yes (a:=p0) (b:=p1) (c:=p2) (m:=m9) (.inl hz))
            have hz:=Lib.hid hz;rename_i h_;clear h_
            have hb:=Lib.hid hb;rename_i h_;clear h_
            go_wp2_with fail
            go_ret
            exact⟨ret_bool hv.out.symm,hbwi⟩
    · skip
      have e0:((1:Nat):Int)=1:=rfl
      rw[e0]
      clear e0 hk
      have hin:=Lib.hid hin;rename_i h_;clear h_
      obtain⟨wo,rfl⟩:∃ wo:World,wo=wr:=⟨_,rfl⟩
      have y0':wo.cell? ⟨g,6,none⟩=some (.bool s'):=(Bl.cellOf (w:=w) (p:=⟨g,6,none⟩) hbw hg).trans y0
      have y1':wo.cell? ⟨g,7,none⟩=some (.slice A' n' c'):=(Bl.cellOf (w:=w) (p:=⟨g,7,none⟩) hbw hg).trans y1
      have y2':wo.cell? ⟨g,8,none⟩=some (.slice B' m' d'):=(Bl.cellOf (w:=w) (p:=⟨g,8,none⟩) hbw hg).trans y2
      have y3':wo.cell? ⟨g,9,none⟩=some (.bool t'):=(Bl.cellOf (w:=w) (p:=⟨g,9,none⟩) hbw hg).trans y3
      have y4':wo.cell? ⟨g,10,none⟩=some (.slice C' i' e'):=(Bl.cellOf (w:=w) (p:=⟨g,10,none⟩) hbw hg).trans y4
      have y5':wo.cell? ⟨g,11,none⟩=some (.slice D' j' f'):=(Bl.cellOf (w:=w) (p:=⟨g,11,none⟩) hbw hg).trans y5
      go_wp2_with fail
      refine wp_gen (fun W=> Bl w W∧Blk W wo.heap.size 76 #[.bool s',.slice A' n' c',.slice B' m' d',.bool t',.slice C' i' e',.slice D' j' f']) ⟨slc,bts⟩ ?_
      clear y0' y1' y2' y3' y4' y5'
      rintro W ⟨hbW,qa⟩
      go_loopw [7,19] (fun b i wr=> ∃ k:Nat,k≤n9∧i=.int .i64 (k:Int)∧b=.bool (noB p1 p2 m9 k)∧Bl W wr) (fun _ i _=> n9 - (intOf i).toNat)
      case atStart=> exact⟨0,Nat.zero_le _,rfl,by rw[noB_zero],Bl.refl _⟩
      case round =>
        obtain⟨k,hk,rfl,rfl,hbi⟩:=hrel
        have qi:=qa.bl hbi
        have hbwi:=hbW.next hbi
        by_cases hkn:k < n9
        · have hki:(k:Int) < (n9:Int):=by omega
          obtain⟨ad,rfl,hlta,hca⟩:=(RdPS.bl hl9 hbwi).cells k hkn
          obtain⟨s5,A5,n5,c5,B5,m5,d5,t5,C5,i5,e5,D5,j5,f5,⟨g0,g1,g2,g3,g4,g5⟩,hx,hy⟩:=hca
          cases hb:noB p1 p2 m9 k
          · have hnx:=Lib.hid (noB_no hb)
            have hb:=Lib.hid hb;rename_i h_;clear h_
            go_wp2_with fail
            go_quiet (fail)
            go_wp2_with fail
            go_roundw
            case rel=> exact⟨k+1,by omega,by go_num,by rw[hnx.out],slc⟩
            case measure=> simp[intOf];omega
          · have hnx:=Lib.hid (noB_yes hb)
            have hb:=Lib.hid hb;rename_i h_;clear h_
            have hw:IntKind.i64.wrap 2=2:=by rfl
            go_wp2_with fail
            go_region_held3 (fun w' =>(w'.cell? ⟨wo.heap.size,0,none⟩=some (.bool s')∧w'.cell? ⟨wo.heap.size,1,none⟩=some (.slice A' n' c')∧w'.cell? ⟨wo.heap.size,2,none⟩=some (.slice B' m' d')∧w'.cell? ⟨wo.heap.size,3,none⟩=some (.bool t')∧w'.cell? ⟨wo.heap.size,4,none⟩=some (.slice C' i' e')∧w'.cell? ⟨wo.heap.size,5,none⟩=some (.slice D' j' f'))∧(w'.cell? ⟨g,12,none⟩=some (.bool s2)∧w'.cell? ⟨g,13,none⟩=some (.slice A2 n2 c2)∧w'.cell? ⟨g,14,none⟩=some (.slice B2 m2 d2)∧w'.cell? ⟨g,15,none⟩=some (.bool t2)∧w'.cell? ⟨g,16,none⟩=some (.slice C2 i2 e2)∧w'.cell? ⟨g,17,none⟩=some (.slice D2 j2 f2))∧(w'.cell? ⟨wr.heap.size,0,none⟩=some (.bool s5)∧w'.cell? ⟨wr.heap.size,1,none⟩=some (.slice A5 n5 c5)∧w'.cell? ⟨wr.heap.size,2,none⟩=some (.slice B5 m5 d5)∧w'.cell? ⟨wr.heap.size,3,none⟩=some (.bool t5)∧w'.cell? ⟨wr.heap.size,4,none⟩=some (.slice C5 i5 e5)∧w'.cell? ⟨wr.heap.size,5,none⟩=some (.slice D5 j5 f5))) (first | exact⟨bx6 (T:=76) (qi.bl slc),⟨(Bl.cellOf (w:=w) (p:=⟨g,12,none⟩) slc hg).trans z0,(Bl.cellOf (w:=w) (p:=⟨g,13,none⟩) slc hg).trans z1,(Bl.cellOf (w:=w) (p:=⟨g,14,none⟩) slc hg).trans z2,(Bl.cellOf (w:=w) (p:=⟨g,15,none⟩) slc hg).trans z3,(Bl.cellOf (w:=w) (p:=⟨g,16,none⟩) slc hg).trans z4,(Bl.cellOf (w:=w) (p:=⟨g,17,none⟩) slc hg).trans z5⟩,bx6 (T:=76) bts⟩) (first |(go_at_call 47;refine(sDoubleArea_any _ (hX1.bl slc) (hY1.bl slc) (hX2.bl slc) (hY2.bl slc) (hx.bl slc) (hy.bl slc)).mono ?_;rintro en w2 ⟨s3,A3,n3,c3,B3,m3,d3,rfl,hR,hb2⟩) |(go_at_call 80;refine(sRatSign_any _ hR.rd).mono ?_;rintro en w3 ⟨rfl,hb3⟩))
            go_wp2_with fail
            go_roundw
            case rel=> exact⟨k+1,by omega,by go_num,by rw[hnx.out],slc⟩
            case measure=> simp[intOf];omega
        · obtain rfl:k=n9:=by omega
          have hall:=Lib.hid (noB_all (a:=p1) (b:=p2) hl9.len)
          cases hb:noB p1 p2 m9 k
          · have hz:¬ NoPos p1 p2 m9:=fun h=> by have:=hall.out.2 h;rw[hb] at this;cases this
            have hin':SepTo p0 p1 p2 m9 2:=⟨fun _=> hin.out.1 (by omega),fun _=> hz,fun h=> by omega⟩
            have hin':=Lib.hid hin';rename_i h_;clear h_
            have hz:=Lib.hid hz;rename_i h_;clear h_
            have hb:=Lib.hid hb;rename_i h_;clear h_
            go_wp2_with fail
            go_roundw
            case rel=> exact⟨2,by omega,rfl,hin'.out,hbwi⟩
            case measure=> simp[intOf]
          · have hz:NoPos p1 p2 m9:=hall.out.1 hb
            have hv:=Lib.hid (sepB_yes (a:=p0) (b:=p1) (c:=p2) (m:=m9) (.inr (.inl hz)))
            have hz:=Lib.hid hz;rename_i h_;clear h_
            have hb:=Lib.hid hb;rename_i h_;clear h_
            go_wp2_with fail
            go_ret
            exact⟨ret_bool hv.out.symm,hbwi⟩
    · skip
      have e0:((2:Nat):Int)=2:=rfl
      rw[e0]
      clear e0 hk
      have hin:=Lib.hid hin;rename_i h_;clear h_
      obtain⟨wo,rfl⟩:∃ wo:World,wo=wr:=⟨_,rfl⟩
      have z0':wo.cell? ⟨g,12,none⟩=some (.bool s2):=(Bl.cellOf (w:=w) (p:=⟨g,12,none⟩) hbw hg).trans z0
      have z1':wo.cell? ⟨g,13,none⟩=some (.slice A2 n2 c2):=(Bl.cellOf (w:=w) (p:=⟨g,13,none⟩) hbw hg).trans z1
      have z2':wo.cell? ⟨g,14,none⟩=some (.slice B2 m2 d2):=(Bl.cellOf (w:=w) (p:=⟨g,14,none⟩) hbw hg).trans z2
      have z3':wo.cell? ⟨g,15,none⟩=some (.bool t2):=(Bl.cellOf (w:=w) (p:=⟨g,15,none⟩) hbw hg).trans z3
      have z4':wo.cell? ⟨g,16,none⟩=some (.slice C2 i2 e2):=(Bl.cellOf (w:=w) (p:=⟨g,16,none⟩) hbw hg).trans z4
      have z5':wo.cell? ⟨g,17,none⟩=some (.slice D2 j2 f2):=(Bl.cellOf (w:=w) (p:=⟨g,17,none⟩) hbw hg).trans z5
      go_wp2_with fail
      refine wp_gen (fun W=> Bl w W∧Blk W wo.heap.size 76 #[.bool s2,.slice A2 n2 c2,.slice B2 m2 d2,.bool t2,.slice C2 i2 e2,.slice D2 j2 f2]) ⟨slc,bts⟩ ?_
      clear z0' z1' z2' z3' z4' z5'
      rintro W ⟨hbW,qa⟩
      go_loopw [7,19] (fun b i wr=> ∃ k:Nat,k≤n9∧i=.int .i64 (k:Int)∧b=.bool (noB p2 p0 m9 k)∧Bl W wr) (fun _ i _=> n9 - (intOf i).toNat)
      case atStart=> exact⟨0,Nat.zero_le _,rfl,by rw[noB_zero],Bl.refl _⟩
      case round =>
        obtain⟨k,hk,rfl,rfl,hbi⟩:=hrel
        have qi:=qa.bl hbi
        have hbwi:=hbW.next hbi
        by_cases hkn:k < n9
        · have hki:(k:Int) < (n9:Int):=by omega
          obtain⟨ad,rfl,hlta,hca⟩:=(RdPS.bl hl9 hbwi).cells k hkn
          obtain⟨s5,A5,n5,c5,B5,m5,d5,t5,C5,i5,e5,D5,j5,f5,⟨g0,g1,g2,g3,g4,g5⟩,hx,hy⟩:=hca
          cases hb:noB p2 p0 m9 k
          · have hnx:=Lib.hid (noB_no hb)
            have hb:=Lib.hid hb;rename_i h_;clear h_
            go_wp2_with fail
            go_quiet (fail)
            go_wp2_with fail
            go_roundw
            case rel=> exact⟨k+1,by omega,by go_num,by rw[hnx.out],slc⟩
            case measure=> simp[intOf];omega
          · have hnx:=Lib.hid (noB_yes hb)
            have hb:=Lib.hid hb;rename_i h_;clear h_
            have hw:IntKind.i64.wrap 3=3:=by rfl
            go_wp2_with fail
            go_region_held3 (fun w' =>(w'.cell? ⟨wo.heap.size,0,none⟩=some (.bool s2)∧w'.cell? ⟨wo.heap.size,1,none⟩=some (.slice A2 n2 c2)∧w'.cell? ⟨wo.heap.size,2,none⟩=some (.slice B2 m2 d2)∧w'.cell? ⟨wo.heap.size,3,none⟩=some (.bool t2)∧w'.cell? ⟨wo.heap.size,4,none⟩=some (.slice C2 i2 e2)∧w'.cell? ⟨wo.heap.size,5,none⟩=some (.slice D2 j2 f2))∧(w'.cell? ⟨g,0,none⟩=some (.bool s)∧w'.cell? ⟨g,1,none⟩=some (.slice A n c)∧w'.cell? ⟨g,2,none⟩=some (.slice B m d)∧w'.cell? ⟨g,3,none⟩=some (.bool t)∧w'.cell? ⟨g,4,none⟩=some (.slice C i e)∧w'.cell? ⟨g,5,none⟩=some (.slice D j f))∧(w'.cell? ⟨wr.heap.size,0,none⟩=some (.bool s5)∧w'.cell? ⟨wr.heap.size,1,none⟩=some (.slice A5 n5 c5)∧w'.cell? ⟨wr.heap.size,2,none⟩=some (.slice B5 m5 d5)∧w'.cell? ⟨wr.heap.size,3,none⟩=some (.bool t5)∧w'.cell? ⟨wr.heap.size,4,none⟩=some (.slice C5 i5 e5)∧w'.cell? ⟨wr.heap.size,5,none⟩=some (.slice D5 j5 f5))) (first | exact⟨bx6 (T:=76) (qi.bl slc),⟨(Bl.cellOf (w:=w) (p:=⟨g,0,none⟩) slc hg).trans x0,(Bl.cellOf (w:=w) (p:=⟨g,1,none⟩) slc hg).trans x1,(Bl.cellOf (w:=w) (p:=⟨g,2,none⟩) slc hg).trans x2,(Bl.cellOf (w:=w) (p:=⟨g,3,none⟩) slc hg).trans x3,(Bl.cellOf (w:=w) (p:=⟨g,4,none⟩) slc hg).trans x4,(Bl.cellOf (w:=w) (p:=⟨g,5,none⟩) slc hg).trans x5⟩,bx6 (T:=76) bts⟩) (first |(go_at_call 47;refine(sDoubleArea_any _ (hX2.bl slc) (hY2.bl slc) (hX0.bl slc) (hY0.bl slc) (hx.bl slc) (hy.bl slc)).mono ?_;rintro en w2 ⟨s3,A3,n3,c3,B3,m3,d3,rfl,hR,hb2⟩) |(go_at_call 80;refine(sRatSign_any _ hR.rd).mono ?_;rintro en w3 ⟨rfl,hb3⟩))
            go_wp2_with fail
            go_roundw
            case rel=> exact⟨k+1,by omega,by go_num,by rw[hnx.out],slc⟩
            case measure=> simp[intOf];omega
        · obtain rfl:k=n9:=by omega
          have hall:=Lib.hid (noB_all (a:=p2) (b:=p0) hl9.len)
          cases hb:noB p2 p0 m9 k
          · have hz:¬ NoPos p2 p0 m9:=fun h=> by have:=hall.out.2 h;rw[hb] at this;cases this
            have hin':SepTo p0 p1 p2 m9 3:=⟨fun _=> hin.out.1 (by omega),fun _=> hin.out.2.1 (by omega),fun _=> hz⟩
            have hin':=Lib.hid hin';rename_i h_;clear h_
            have hz:=Lib.hid hz;rename_i h_;clear h_
            have hb:=Lib.hid hb;rename_i h_;clear h_
            go_wp2_with fail
            go_roundw
            case rel=> exact⟨3,by omega,rfl,hin'.out,hbwi⟩
            case measure=> simp[intOf]
          · have hz:NoPos p2 p0 m9:=hall.out.1 hb
            have hv:=Lib.hid (sepB_yes (a:=p0) (b:=p1) (c:=p2) (m:=m9) (.inr (.inr hz)))
            have hz:=Lib.hid hz;rename_i h_;clear h_
            have hb:=Lib.hid hb;rename_i h_;clear h_
            go_wp2_with fail
            go_ret
            exact⟨ret_bool hv.out.symm,hbwi⟩
    · have e0:((3:Nat):Int)=3:=rfl
      rw[e0]
      clear e0 hk
      have hv:=Lib.hid (sepB_no hin)
      clear hin
      go_wp2_with fail
      go_ret
      exact⟨ret_bool hv.out.symm,hbw⟩

/-- Whether two lists of points overlap. -/
noncomputable def ovB (l m:List PtD):Bool:=propB l && propB m && !sepB l m && !sepB m l
end

section
open Go.RowKit

theorem sIsProper_yes (w:World) {g n c0:Nat}{l:List PtD}(h:RdPS w (some ⟨g,0,none⟩) n c0 l) (hp:propB l=true) :
    Calls Tryz.prog 38 #[.slice (some ⟨g,0,none⟩) n c0] w fun e w'=> e=.returned (.bool (propB l))∧Bl w w':=by
  obtain⟨_,p0,p1,p2,q1,_⟩:=propB_out hp
  subst q1
  obtain rfl:3=n:=h.len
  obtain⟨v0,v1,v2,hs⟩:=propB_three (Classical.byContradiction fun hk=> by rw[propB_no hk] at hp;cases hp)
  exact sIsProper_4 w h v0 v1 v2 (okR_of (sgn_pos_ok hs)) (by unfold Hid;rw[hp];simp[hs])
set_option maxRecDepth 100000 in
set_option maxHeartbeats 8000000 in
theorem sOverlap_yes (w:World) {g n c g' n' c':Nat}{l m:List PtD}(ha:RdPS w (some ⟨g,0,none⟩) n c l) (hb:RdPS w (some ⟨g',0,none⟩) n' c' m) (e1:propB l=true) (e2:propB m=true) :
    Calls Tryz.prog 41 #[.slice (some ⟨g,0,none⟩) n c,.slice (some ⟨g',0,none⟩) n' c'] w fun e w'=> e=.returned (.bool (ovB l m))∧Bl w w':=by
  have hbb:=Bl.refl w
  obtain⟨_,p0,p1,p2,q1,_⟩:=propB_out e1
  obtain⟨_,q0,q1',q2,q2',_⟩:=propB_out e2
  subst q1
  subst q2'
  obtain rfl:3=n:=ha.len
  obtain rfl:3=n':=hb.len
  cases e3:sepB [p0,p1,p2] [q0,q1',q2]
  · cases e4:sepB [q0,q1',q2] [p0,p1,p2]
    all_goals
      have e1:=Lib.hid e1;rename_i h_;clear h_
      have e2:=Lib.hid e2;rename_i h_;clear h_
      have e3:=Lib.hid e3;rename_i h_;clear h_
      have e4:=Lib.hid e4;rename_i h_;clear h_
      go_enter Tryz.func41,Tryz.ntmps41
      go_wp2_with fail
      refine(sIsProper_yes _ (RdPS.bl ha hbb) e1.out).mono ?_
      rw[e1.out]
      rintro e w1 ⟨rfl,hb1⟩
      replace hbb:=hbb.next hb1
      clear hb1
      go_wp2_with fail
      refine(sIsProper_yes _ (RdPS.bl hb hbb) e2.out).mono ?_
      rw[e2.out]
      rintro e w1 ⟨rfl,hb1⟩
      replace hbb:=hbb.next hb1
      clear hb1
      go_wp2_with fail
      refine(l06Apart_three _ (RdPS.bl ha hbb) (RdPS.bl hb hbb)).mono ?_
      rw[e3.out]
      rintro e w1 ⟨rfl,hb1⟩
      replace hbb:=hbb.next hb1
      clear hb1
      go_wp2_with fail
      refine(l06Apart_three _ (RdPS.bl hb hbb) (RdPS.bl ha hbb)).mono ?_
      rw[e4.out]
      rintro e w1 ⟨rfl,hb1⟩
      replace hbb:=hbb.next hb1
      clear hb1
      go_wp2_with fail
      go_ret
      exact⟨ret_bool (by unfold ovB;simp[e1.out,e2.out,e3.out,e4.out]),hbb⟩
  · have e1:=Lib.hid e1;rename_i h_;clear h_
    have e2:=Lib.hid e2;rename_i h_;clear h_
    have e3:=Lib.hid e3;rename_i h_;clear h_
    go_enter Tryz.func41,Tryz.ntmps41
    go_wp2_with fail
    refine(sIsProper_yes _ (RdPS.bl ha hbb) e1.out).mono ?_
    rw[e1.out]
    rintro e w1 ⟨rfl,hb1⟩
    replace hbb:=hbb.next hb1
    clear hb1
    go_wp2_with fail
    refine(sIsProper_yes _ (RdPS.bl hb hbb) e2.out).mono ?_
    rw[e2.out]
    rintro e w1 ⟨rfl,hb1⟩
    replace hbb:=hbb.next hb1
    clear hb1
    go_wp2_with fail
    refine(l06Apart_three _ (RdPS.bl ha hbb) (RdPS.bl hb hbb)).mono ?_
    rw[e3.out]
    rintro e w1 ⟨rfl,hb1⟩
    replace hbb:=hbb.next hb1
    clear hb1
    go_wp2_with fail
    go_ret
    exact⟨ret_bool (by unfold ovB;simp[e1.out,e2.out,e3.out]),hbb⟩
end

end Go.Proofs.YtjaapemopbbfaaaGreat
