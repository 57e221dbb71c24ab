import Derived.Test.YtjaapemopbbfaaaGreatDoorPMeshesM23
namespace Go.Proofs.YtjaapemopbbfaaaGreatDoor
open Go.RowKit
set_option maxRecDepth 100000
set_option maxHeartbeats 16000000
open Classical in
noncomputable def noB (a b:PtD) (l:List PtD) (k:Nat):Bool:=decide (qcc a b l k)
theorem Vg (a b:PtD) (l:List PtD):noB a b l 0=true:=by unfold noB;simp only[decide_eq_true_eq];exact qcc.zero _ _ _
theorem X9 {a b:PtD}{l:List PtD}{k:Nat}(h:noB a b l k=true):noB a b l (k+1)=decide (Zi (Yc a b (pix l k))<=0):=by
 unfold noB at h ⊢
 simp only[decide_eq_true_eq]at h
 rw[decide_eq_decide]
 exact⟨λhk=>Int.not_lt.1 (hk k (by omega)),λhk=>h.step (Int.not_lt.2 hk)⟩
theorem KV {a b:PtD}{l:List PtD}{k:Nat}(h:noB a b l k=false):noB a b l (k+1)=false:=by
 unfold noB at h ⊢
 simp only[decide_eq_false_iff_not]at h ⊢
 exact λhk=>h λj hj=>hk j (by omega)
theorem uc {a b:PtD}{l:List PtD}{n:Nat}(hl:l.length=n):noB a b l n=true↔Qn a b l:=by
 unfold noB
 simp only[decide_eq_true_eq]
 subst hl
 exact Iff.rfl
theorem yF (w:World) {g c0:Nat}{p0 p1 p2:PtD}(h:qR w (some ⟨g,0,none⟩) 3 c0 [p0,p1,p2]) {A9:Option Addr}{n9 c9:Nat}{m9:List PtD}(hl9:qR w A9 n9 c9 m9) :
  Calls Tryz.prog 250 #[.slice (some ⟨g,0,none⟩) 3 c0,.slice A9 n9 c9] w λe w'=>e=.returned (.bool (U9 [p0,p1,p2] m9))/\Bl w w':=by
 obtain⟨_,e0,hg,hc0⟩:=h.cells 0 (by omega)
 cases e0
 rw[Addr.add_lit]at hc0
 obtain⟨s,A,n,c,B,m,d,t,C,i,e,D,j,f,⟨x0,x1,x2,x3,x4,x5⟩,hX0,hY0⟩:=(show YX w ⟨g,0,none⟩ p0 from hc0)
 have x0:w.cell? ⟨g,0,none⟩=some (.bool s):=x0
 have x1:w.cell? ⟨g,1,none⟩=some (.slice A n c):=x1
 have x2:w.cell? ⟨g,2,none⟩=some (.slice B m d):=x2
 have x3:w.cell? ⟨g,3,none⟩=some (.bool t):=x3
 have x4:w.cell? ⟨g,4,none⟩=some (.slice C i e):=x4
 have x5:w.cell? ⟨g,5,none⟩=some (.slice D j f):=x5
 obtain⟨_,e0,hg,hc1⟩:=h.cells 1 (by omega)
 cases e0
 rw[Addr.add_lit]at hc1
 obtain⟨s',A',n',c',B',m',d',t',C',i',e',D',j',f',⟨y0,y1,y2,y3,y4,y5⟩,hX1,hY1⟩:=(show YX w ⟨g,6,none⟩ p1 from hc1)
 have y0:w.cell? ⟨g,6,none⟩=some (.bool s'):=y0
 have y1:w.cell? ⟨g,7,none⟩=some (.slice A' n' c'):=y1
 have y2:w.cell? ⟨g,8,none⟩=some (.slice B' m' d'):=y2
 have y3:w.cell? ⟨g,9,none⟩=some (.bool t'):=y3
 have y4:w.cell? ⟨g,10,none⟩=some (.slice C' i' e'):=y4
 have y5:w.cell? ⟨g,11,none⟩=some (.slice D' j' f'):=y5
 obtain⟨_,e0,hg,hc2⟩:=h.cells 2 (by omega)
 cases e0
 rw[Addr.add_lit]at hc2
 obtain⟨s2,A2,n2,c2,B2,m2,d2,t2,C2,i2,e2,D2,j2,f2,⟨z0,z1,z2,z3,z4,z5⟩,hX2,hY2⟩:=(show YX w ⟨g,12,none⟩ p2 from hc2)
 have z0:w.cell? ⟨g,12,none⟩=some (.bool s2):=z0
 have z1:w.cell? ⟨g,13,none⟩=some (.slice A2 n2 c2):=z1
 have z2:w.cell? ⟨g,14,none⟩=some (.slice B2 m2 d2):=z2
 have z3:w.cell? ⟨g,15,none⟩=some (.bool t2):=z3
 have z4:w.cell? ⟨g,16,none⟩=some (.slice C2 i2 e2):=z4
 have z5:w.cell? ⟨g,17,none⟩=some (.slice D2 j2 f2):=z5
 clear hc0 hc1 hc2
 have hsm:=hl9.small
 go_enter Tryz.func250,Tryz.ntmps250
 go_wp2_with fail
 go_loopw [12] (λi wr=>∃k:Nat,k<=3/\i=.int .i64 (k:Int)/\KG p0 p1 p2 m9 k/\Bl w wr) (λi _=>3-(intOf i).toNat)
 case atStart=>exact⟨0,by omega,rfl,⟨λh=>by omega,λh=>by omega,λh=>by omega⟩,Bl.refl _⟩
 case round=>
  obtain⟨k,hk,rfl,hin,hbw⟩:=hrel
  rcases(show k=0\/k=1\/k=2\/k=3 by omega)with rfl|rfl|rfl|rfl
  ·skip
   have e0:((0:Nat):Int)=0:=rfl
   rw[e0]
   clear e0 hk
   replace hin:=Lib.hid hin
   obtain⟨wo,rfl⟩:∃wo:World,wo=wr:=⟨_,rfl⟩
   have x0':wo.cell? ⟨g,0,none⟩=some (.bool s):=(Bl.qeV (w:=w) (p:=⟨g,0,none⟩) hbw hg).trans x0
   have x1':wo.cell? ⟨g,1,none⟩=some (.slice A n c):=(Bl.qeV (w:=w) (p:=⟨g,1,none⟩) hbw hg).trans x1
   have x2':wo.cell? ⟨g,2,none⟩=some (.slice B m d):=(Bl.qeV (w:=w) (p:=⟨g,2,none⟩) hbw hg).trans x2
   have x3':wo.cell? ⟨g,3,none⟩=some (.bool t):=(Bl.qeV (w:=w) (p:=⟨g,3,none⟩) hbw hg).trans x3
   have x4':wo.cell? ⟨g,4,none⟩=some (.slice C i e):=(Bl.qeV (w:=w) (p:=⟨g,4,none⟩) hbw hg).trans x4
   have x5':wo.cell? ⟨g,5,none⟩=some (.slice D j f):=(Bl.qeV (w:=w) (p:=⟨g,5,none⟩) hbw hg).trans x5
   go_wp2_with fail
   refine qe (λW=>Bl w W/\Blk W wo.heap.size 28 #[.bool s,.slice A n c,.slice B m d,.bool t,.slice C i e,.slice D j f]) ⟨slc,bts⟩ ?_
   clear x0' x1' x2' x3' x4' x5'
   rintro W ⟨hbW,qa⟩
   go_loopw [7,19] (λb i wr=>∃k:Nat,k<=n9/\i=.int .i64 (k:Int)/\b=.bool (noB p0 p1 m9 k)/\Bl W wr) (λ_ i _=>n9-(intOf i).toNat)
   case atStart=>exact⟨0,Nat.zero_le _,rfl,by rw[Vg],Bl.refl _⟩
   case round=>
    obtain⟨k,hk,rfl,rfl,hbi⟩:=hrel
    have qi:=qa.bl hbi
    have hbwi:=hbW.next hbi
    by_cases hkn:k<n9
    ·have hki:(k:Int)<(n9:Int):=by omega
     obtain⟨ad,rfl,hlta,hca⟩:=(qR.bl hl9 hbwi).cells k hkn
     obtain⟨s5,A5,n5,c5,B5,m5,d5,t5,C5,i5,e5,D5,j5,f5,⟨g0,g1,g2,g3,g4,g5⟩,hx,hy⟩:=hca
     cases hb:noB p0 p1 m9 k
     ·have hnx:=Lib.hid (KV hb)
      replace hb:=Lib.hid hb
      go_wp2_with fail
      go_quiet (fail)
      go_wp2_with fail
      go_roundw
      case rel=>exact⟨k+1,by omega,by go_num,by rw[hnx.out],slc⟩
      case measure=>simp[intOf];omega
     ·have hnx:=Lib.hid (X9 hb)
      replace hb:=Lib.hid hb
      have hw:IntKind.i64.wrap 1=1:=by rfl
      go_wp2_with fail
      go_region_held3 (λw'=>(w'.cell? ⟨wo.heap.size,0,none⟩=some (.bool s)/\w'.cell? ⟨wo.heap.size,1,none⟩=some (.slice A n c)/\w'.cell? ⟨wo.heap.size,2,none⟩=some (.slice B m d)/\w'.cell? ⟨wo.heap.size,3,none⟩=some (.bool t)/\w'.cell? ⟨wo.heap.size,4,none⟩=some (.slice C i e)/\w'.cell? ⟨wo.heap.size,5,none⟩=some (.slice D j f))/\(w'.cell? ⟨g,6,none⟩=some (.bool s')/\w'.cell? ⟨g,7,none⟩=some (.slice A' n' c')/\w'.cell? ⟨g,8,none⟩=some (.slice B' m' d')/\w'.cell? ⟨g,9,none⟩=some (.bool t')/\w'.cell? ⟨g,10,none⟩=some (.slice C' i' e')/\w'.cell? ⟨g,11,none⟩=some (.slice D' j' f'))/\(w'.cell? ⟨wr.heap.size,0,none⟩=some (.bool s5)/\w'.cell? ⟨wr.heap.size,1,none⟩=some (.slice A5 n5 c5)/\w'.cell? ⟨wr.heap.size,2,none⟩=some (.slice B5 m5 d5)/\w'.cell? ⟨wr.heap.size,3,none⟩=some (.bool t5)/\w'.cell? ⟨wr.heap.size,4,none⟩=some (.slice C5 i5 e5)/\w'.cell? ⟨wr.heap.size,5,none⟩=some (.slice D5 j5 f5))) (first|exact⟨bx6 (T:=28) (qi.bl slc),⟨(Bl.qeV (w:=w) (p:=⟨g,6,none⟩) slc hg).trans y0,(Bl.qeV (w:=w) (p:=⟨g,7,none⟩) slc hg).trans y1,(Bl.qeV (w:=w) (p:=⟨g,8,none⟩) slc hg).trans y2,(Bl.qeV (w:=w) (p:=⟨g,9,none⟩) slc hg).trans y3,(Bl.qeV (w:=w) (p:=⟨g,10,none⟩) slc hg).trans y4,(Bl.qeV (w:=w) (p:=⟨g,11,none⟩) slc hg).trans y5⟩,bx6 (T:=28) bts⟩) (first |(go_at_call 247;refine(zK _ (hX0.bl slc) (hY0.bl slc) (hX1.bl slc) (hY1.bl slc) (hx.bl slc) (hy.bl slc)).mono ?_;rintro en w2 ⟨s3,A3,n3,c3,B3,m3,d3,rfl,hR,hb2⟩) |(go_at_call 248;refine(zI _ hR.rd).mono ?_;rintro en w3 ⟨rfl,hb3⟩))
      go_wp2_with fail
      go_roundw
      case rel=>exact⟨k+1,by omega,by go_num,by rw[hnx.out],slc⟩
      case measure=>simp[intOf];omega
    ·obtain rfl:k=n9:=by omega
     have hall:=Lib.hid (uc (a:=p0) (b:=p1) hl9.len)
     cases hb:noB p0 p1 m9 k
     ·have hz:¬Qn p0 p1 m9:=λh=>by have:=hall.out.2 h;rw[hb]at this;cases this
      have hin':KG p0 p1 p2 m9 1:=⟨λ_=>hz,λh=>by omega,λh=>by omega⟩
      have hin':=Lib.hid hin';rename_i h_;clear h_
      replace hz:=Lib.hid hz
      replace hb:=Lib.hid hb
      go_wp2_with fail
      go_roundw
      case rel=>exact⟨1,by omega,rfl,hin'.out,hbwi⟩
      case measure=>simp[intOf]
     ·have hz:Qn p0 p1 m9:=hall.out.1 hb
      have hv:=Lib.hid (QX (a:=p0) (b:=p1) (c:=p2) (m:=m9) (.inl hz))
      replace hz:=Lib.hid hz
      replace hb:=Lib.hid hb
      go_wp2_with fail
      go_ret
      exact⟨qq hv.out.symm,hbwi⟩
  ·skip
   have e0:((1:Nat):Int)=1:=rfl
   rw[e0]
   clear e0 hk
   replace hin:=Lib.hid hin
   obtain⟨wo,rfl⟩:∃wo:World,wo=wr:=⟨_,rfl⟩
   have y0':wo.cell? ⟨g,6,none⟩=some (.bool s'):=(Bl.qeV (w:=w) (p:=⟨g,6,none⟩) hbw hg).trans y0
   have y1':wo.cell? ⟨g,7,none⟩=some (.slice A' n' c'):=(Bl.qeV (w:=w) (p:=⟨g,7,none⟩) hbw hg).trans y1
   have y2':wo.cell? ⟨g,8,none⟩=some (.slice B' m' d'):=(Bl.qeV (w:=w) (p:=⟨g,8,none⟩) hbw hg).trans y2
   have y3':wo.cell? ⟨g,9,none⟩=some (.bool t'):=(Bl.qeV (w:=w) (p:=⟨g,9,none⟩) hbw hg).trans y3
   have y4':wo.cell? ⟨g,10,none⟩=some (.slice C' i' e'):=(Bl.qeV (w:=w) (p:=⟨g,10,none⟩) hbw hg).trans y4
   have y5':wo.cell? ⟨g,11,none⟩=some (.slice D' j' f'):=(Bl.qeV (w:=w) (p:=⟨g,11,none⟩) hbw hg).trans y5
   go_wp2_with fail
   refine qe (λW=>Bl w W/\Blk W wo.heap.size 28 #[.bool s',.slice A' n' c',.slice B' m' d',.bool t',.slice C' i' e',.slice D' j' f']) ⟨slc,bts⟩ ?_
   clear y0' y1' y2' y3' y4' y5'
   rintro W ⟨hbW,qa⟩
   go_loopw [7,19] (λb i wr=>∃k:Nat,k<=n9/\i=.int .i64 (k:Int)/\b=.bool (noB p1 p2 m9 k)/\Bl W wr) (λ_ i _=>n9-(intOf i).toNat)
   case atStart=>exact⟨0,Nat.zero_le _,rfl,by rw[Vg],Bl.refl _⟩
   case round=>
    obtain⟨k,hk,rfl,rfl,hbi⟩:=hrel
    have qi:=qa.bl hbi
    have hbwi:=hbW.next hbi
    by_cases hkn:k<n9
    ·have hki:(k:Int)<(n9:Int):=by omega
     obtain⟨ad,rfl,hlta,hca⟩:=(qR.bl hl9 hbwi).cells k hkn
     obtain⟨s5,A5,n5,c5,B5,m5,d5,t5,C5,i5,e5,D5,j5,f5,⟨g0,g1,g2,g3,g4,g5⟩,hx,hy⟩:=hca
     cases hb:noB p1 p2 m9 k
     ·have hnx:=Lib.hid (KV hb)
      replace hb:=Lib.hid hb
      go_wp2_with fail
      go_quiet (fail)
      go_wp2_with fail
      go_roundw
      case rel=>exact⟨k+1,by omega,by go_num,by rw[hnx.out],slc⟩
      case measure=>simp[intOf];omega
     ·have hnx:=Lib.hid (X9 hb)
      replace hb:=Lib.hid hb
      have hw:IntKind.i64.wrap 2=2:=by rfl
      go_wp2_with fail
      go_region_held3 (λw'=>(w'.cell? ⟨wo.heap.size,0,none⟩=some (.bool s')/\w'.cell? ⟨wo.heap.size,1,none⟩=some (.slice A' n' c')/\w'.cell? ⟨wo.heap.size,2,none⟩=some (.slice B' m' d')/\w'.cell? ⟨wo.heap.size,3,none⟩=some (.bool t')/\w'.cell? ⟨wo.heap.size,4,none⟩=some (.slice C' i' e')/\w'.cell? ⟨wo.heap.size,5,none⟩=some (.slice D' j' f'))/\(w'.cell? ⟨g,12,none⟩=some (.bool s2)/\w'.cell? ⟨g,13,none⟩=some (.slice A2 n2 c2)/\w'.cell? ⟨g,14,none⟩=some (.slice B2 m2 d2)/\w'.cell? ⟨g,15,none⟩=some (.bool t2)/\w'.cell? ⟨g,16,none⟩=some (.slice C2 i2 e2)/\w'.cell? ⟨g,17,none⟩=some (.slice D2 j2 f2))/\(w'.cell? ⟨wr.heap.size,0,none⟩=some (.bool s5)/\w'.cell? ⟨wr.heap.size,1,none⟩=some (.slice A5 n5 c5)/\w'.cell? ⟨wr.heap.size,2,none⟩=some (.slice B5 m5 d5)/\w'.cell? ⟨wr.heap.size,3,none⟩=some (.bool t5)/\w'.cell? ⟨wr.heap.size,4,none⟩=some (.slice C5 i5 e5)/\w'.cell? ⟨wr.heap.size,5,none⟩=some (.slice D5 j5 f5))) (first|exact⟨bx6 (T:=28) (qi.bl slc),⟨(Bl.qeV (w:=w) (p:=⟨g,12,none⟩) slc hg).trans z0,(Bl.qeV (w:=w) (p:=⟨g,13,none⟩) slc hg).trans z1,(Bl.qeV (w:=w) (p:=⟨g,14,none⟩) slc hg).trans z2,(Bl.qeV (w:=w) (p:=⟨g,15,none⟩) slc hg).trans z3,(Bl.qeV (w:=w) (p:=⟨g,16,none⟩) slc hg).trans z4,(Bl.qeV (w:=w) (p:=⟨g,17,none⟩) slc hg).trans z5⟩,bx6 (T:=28) bts⟩) (first |(go_at_call 247;refine(zK _ (hX1.bl slc) (hY1.bl slc) (hX2.bl slc) (hY2.bl slc) (hx.bl slc) (hy.bl slc)).mono ?_;rintro en w2 ⟨s3,A3,n3,c3,B3,m3,d3,rfl,hR,hb2⟩) |(go_at_call 248;refine(zI _ hR.rd).mono ?_;rintro en w3 ⟨rfl,hb3⟩))
      go_wp2_with fail
      go_roundw
      case rel=>exact⟨k+1,by omega,by go_num,by rw[hnx.out],slc⟩
      case measure=>simp[intOf];omega
    ·obtain rfl:k=n9:=by omega
     have hall:=Lib.hid (uc (a:=p1) (b:=p2) hl9.len)
     cases hb:noB p1 p2 m9 k
     ·have hz:¬Qn p1 p2 m9:=λh=>by have:=hall.out.2 h;rw[hb]at this;cases this
      have hin':KG p0 p1 p2 m9 2:=⟨λ_=>hin.out.1 (by omega),λ_=>hz,λh=>by omega⟩
      have hin':=Lib.hid hin';rename_i h_;clear h_
      replace hz:=Lib.hid hz
      replace hb:=Lib.hid hb
      go_wp2_with fail
      go_roundw
      case rel=>exact⟨2,by omega,rfl,hin'.out,hbwi⟩
      case measure=>simp[intOf]
     ·have hz:Qn p1 p2 m9:=hall.out.1 hb
      have hv:=Lib.hid (QX (a:=p0) (b:=p1) (c:=p2) (m:=m9) (.inr (.inl hz)))
      replace hz:=Lib.hid hz
      replace hb:=Lib.hid hb
      go_wp2_with fail
      go_ret
      exact⟨qq hv.out.symm,hbwi⟩
  ·skip
   have e0:((2:Nat):Int)=2:=rfl
   rw[e0]
   clear e0 hk
   replace hin:=Lib.hid hin
   obtain⟨wo,rfl⟩:∃wo:World,wo=wr:=⟨_,rfl⟩
   have z0':wo.cell? ⟨g,12,none⟩=some (.bool s2):=(Bl.qeV (w:=w) (p:=⟨g,12,none⟩) hbw hg).trans z0
   have z1':wo.cell? ⟨g,13,none⟩=some (.slice A2 n2 c2):=(Bl.qeV (w:=w) (p:=⟨g,13,none⟩) hbw hg).trans z1
   have z2':wo.cell? ⟨g,14,none⟩=some (.slice B2 m2 d2):=(Bl.qeV (w:=w) (p:=⟨g,14,none⟩) hbw hg).trans z2
   have z3':wo.cell? ⟨g,15,none⟩=some (.bool t2):=(Bl.qeV (w:=w) (p:=⟨g,15,none⟩) hbw hg).trans z3
   have z4':wo.cell? ⟨g,16,none⟩=some (.slice C2 i2 e2):=(Bl.qeV (w:=w) (p:=⟨g,16,none⟩) hbw hg).trans z4
   have z5':wo.cell? ⟨g,17,none⟩=some (.slice D2 j2 f2):=(Bl.qeV (w:=w) (p:=⟨g,17,none⟩) hbw hg).trans z5
   go_wp2_with fail
   refine qe (λW=>Bl w W/\Blk W wo.heap.size 28 #[.bool s2,.slice A2 n2 c2,.slice B2 m2 d2,.bool t2,.slice C2 i2 e2,.slice D2 j2 f2]) ⟨slc,bts⟩ ?_
   clear z0' z1' z2' z3' z4' z5'
   rintro W ⟨hbW,qa⟩
   go_loopw [7,19] (λb i wr=>∃k:Nat,k<=n9/\i=.int .i64 (k:Int)/\b=.bool (noB p2 p0 m9 k)/\Bl W wr) (λ_ i _=>n9-(intOf i).toNat)
   case atStart=>exact⟨0,Nat.zero_le _,rfl,by rw[Vg],Bl.refl _⟩
   case round=>
    obtain⟨k,hk,rfl,rfl,hbi⟩:=hrel
    have qi:=qa.bl hbi
    have hbwi:=hbW.next hbi
    by_cases hkn:k<n9
    ·have hki:(k:Int)<(n9:Int):=by omega
     obtain⟨ad,rfl,hlta,hca⟩:=(qR.bl hl9 hbwi).cells k hkn
     obtain⟨s5,A5,n5,c5,B5,m5,d5,t5,C5,i5,e5,D5,j5,f5,⟨g0,g1,g2,g3,g4,g5⟩,hx,hy⟩:=hca
     cases hb:noB p2 p0 m9 k
     ·have hnx:=Lib.hid (KV hb)
      replace hb:=Lib.hid hb
      go_wp2_with fail
      go_quiet (fail)
      go_wp2_with fail
      go_roundw
      case rel=>exact⟨k+1,by omega,by go_num,by rw[hnx.out],slc⟩
      case measure=>simp[intOf];omega
     ·have hnx:=Lib.hid (X9 hb)
      replace hb:=Lib.hid hb
      have hw:IntKind.i64.wrap 3=3:=by rfl
      go_wp2_with fail
      go_region_held3 (λw'=>(w'.cell? ⟨wo.heap.size,0,none⟩=some (.bool s2)/\w'.cell? ⟨wo.heap.size,1,none⟩=some (.slice A2 n2 c2)/\w'.cell? ⟨wo.heap.size,2,none⟩=some (.slice B2 m2 d2)/\w'.cell? ⟨wo.heap.size,3,none⟩=some (.bool t2)/\w'.cell? ⟨wo.heap.size,4,none⟩=some (.slice C2 i2 e2)/\w'.cell? ⟨wo.heap.size,5,none⟩=some (.slice D2 j2 f2))/\(w'.cell? ⟨g,0,none⟩=some (.bool s)/\w'.cell? ⟨g,1,none⟩=some (.slice A n c)/\w'.cell? ⟨g,2,none⟩=some (.slice B m d)/\w'.cell? ⟨g,3,none⟩=some (.bool t)/\w'.cell? ⟨g,4,none⟩=some (.slice C i e)/\w'.cell? ⟨g,5,none⟩=some (.slice D j f))/\(w'.cell? ⟨wr.heap.size,0,none⟩=some (.bool s5)/\w'.cell? ⟨wr.heap.size,1,none⟩=some (.slice A5 n5 c5)/\w'.cell? ⟨wr.heap.size,2,none⟩=some (.slice B5 m5 d5)/\w'.cell? ⟨wr.heap.size,3,none⟩=some (.bool t5)/\w'.cell? ⟨wr.heap.size,4,none⟩=some (.slice C5 i5 e5)/\w'.cell? ⟨wr.heap.size,5,none⟩=some (.slice D5 j5 f5))) (first|exact⟨bx6 (T:=28) (qi.bl slc),⟨(Bl.qeV (w:=w) (p:=⟨g,0,none⟩) slc hg).trans x0,(Bl.qeV (w:=w) (p:=⟨g,1,none⟩) slc hg).trans x1,(Bl.qeV (w:=w) (p:=⟨g,2,none⟩) slc hg).trans x2,(Bl.qeV (w:=w) (p:=⟨g,3,none⟩) slc hg).trans x3,(Bl.qeV (w:=w) (p:=⟨g,4,none⟩) slc hg).trans x4,(Bl.qeV (w:=w) (p:=⟨g,5,none⟩) slc hg).trans x5⟩,bx6 (T:=28) bts⟩) (first |(go_at_call 247;refine(zK _ (hX2.bl slc) (hY2.bl slc) (hX0.bl slc) (hY0.bl slc) (hx.bl slc) (hy.bl slc)).mono ?_;rintro en w2 ⟨s3,A3,n3,c3,B3,m3,d3,rfl,hR,hb2⟩) |(go_at_call 248;refine(zI _ hR.rd).mono ?_;rintro en w3 ⟨rfl,hb3⟩))
      go_wp2_with fail
      go_roundw
      case rel=>exact⟨k+1,by omega,by go_num,by rw[hnx.out],slc⟩
      case measure=>simp[intOf];omega
    ·obtain rfl:k=n9:=by omega
     have hall:=Lib.hid (uc (a:=p2) (b:=p0) hl9.len)
     cases hb:noB p2 p0 m9 k
     ·have hz:¬Qn p2 p0 m9:=λh=>by have:=hall.out.2 h;rw[hb]at this;cases this
      have hin':KG p0 p1 p2 m9 3:=⟨λ_=>hin.out.1 (by omega),λ_=>hin.out.2.1 (by omega),λ_=>hz⟩
      have hin':=Lib.hid hin';rename_i h_;clear h_
      replace hz:=Lib.hid hz
      replace hb:=Lib.hid hb
      go_wp2_with fail
      go_roundw
      case rel=>exact⟨3,by omega,rfl,hin'.out,hbwi⟩
      case measure=>simp[intOf]
     ·have hz:Qn p2 p0 m9:=hall.out.1 hb
      have hv:=Lib.hid (QX (a:=p0) (b:=p1) (c:=p2) (m:=m9) (.inr (.inr hz)))
      replace hz:=Lib.hid hz
      replace hb:=Lib.hid hb
      go_wp2_with fail
      go_ret
      exact⟨qq hv.out.symm,hbwi⟩
  ·have e0:((3:Nat):Int)=3:=rfl
   rw[e0]
   clear e0 hk
   have hv:=Lib.hid (qb6 hin)
   clear hin
   go_wp2_with fail
   go_ret
   exact⟨qq hv.out.symm,hbw⟩
noncomputable def ovB (l m:List PtD):Bool:=Q5 l&&Q5 m&&!U9 l m&&!U9 m l
section
variable {x0 y0 x1 y1 x2 y2:Rat}
theorem uG {x y u v:Rat}(hx:Bd 19652 x) (hy:Bd 19652 y) (hu:Bd 19652 u) (hv:Bd 19652 v):K8 (toP x y) (toP u v)=toP (x-u) (y-v)/\Bd 772402208 (x-u)/\Bd 772402208 (y-v):=by
 have h1:Bd 772402208 (x-u):=(hx.sub hu).mono (by decide)
 have h2:Bd 772402208 (y-v):=(hy.sub hv).mono (by decide)
 refine⟨?_,h1,h2⟩
 unfold K8
 rw[show (toP x y).x=toR x from rfl,show (toP u v).x=toR u from rfl,show (toP x y).y=toR y from rfl,show (toP u v).y=toR v from rfl,
  QW (hx.fit (by decide)) (hu.fit (by decide)) (h1.fit (by decide)),QW (hy.fit (by decide)) (hv.fit (by decide)) (h2.fit (by decide))]
 exact uo (h1.fit (by decide)) (h2.fit (by decide))
theorem qaS {x0 y0 x1 y1 x2 y2:Rat}(a0:Bd 19652 x0) (b0:Bd 19652 y0) (a1:Bd 19652 x1) (b1:Bd 19652 y1) (a2:Bd 19652 x2) (b2:Bd 19652 y2) :
  Yc (toP x0 y0) (toP x1 y1) (toP x2 y2)=toR (K5 x0 y0 x1 y1 x2 y2)/\Bd 711875459944780985046933946228539392 (K5 x0 y0 x1 y1 x2 y2):=by
 obtain⟨e1,h1,h2⟩:=uG a1 b1 a0 b0
 obtain⟨e2,h3,h4⟩:=uG a2 b2 a0 b0
 have m1:Bd 596605170923275264 ((x1-x0)*(y2-y0)):=(h1.mul h4).mono (by decide)
 have m2:Bd 596605170923275264 ((y1-y0)*(x2-x0)):=(h2.mul h3).mono (by decide)
 have m3:Bd 711875459944780985046933946228539392 (K5 x0 y0 x1 y1 x2 y2):=(m1.sub m2).mono (by decide)
 refine⟨?_,m3⟩
 unfold Yc
 rw[e1,e2]
 unfold xH
 rw[show (toP (x1-x0) (y1-y0)).x=toR (x1-x0)from rfl,show (toP (x1-x0) (y1-y0)).y=toR (y1-y0)from rfl,show (toP (x2-x0) (y2-y0)).x=toR (x2-x0)from rfl,show (toP (x2-x0) (y2-y0)).y=toR (y2-y0)from rfl,
  yC (h1.fit (by decide)) (h4.fit (by decide)) (m1.fit (by decide)),yC (h2.fit (by decide)) (h3.fit (by decide)) (m2.fit (by decide)),QW (m1.fit (by decide)) (m2.fit (by decide)) (m3.fit (by decide))]
 rfl
theorem kF {N:Nat}{q:Rat}(h:Bd N q) (hN:N<Bs ^ 24):(0<Zi (toR q))↔0<q:=by
 rw[ZH (h.fit hN)]
 by_cases h1:q<0
 ·rw[if_pos h1]
  constructor
  ·intro h;omega
  ·intro h;exfalso;grind
 ·rw[if_neg h1]
  by_cases h2:0<q
  ·rw[if_pos h2];exact⟨λ_=>h2,λ_=>by omega⟩
  ·rw[if_neg h2];exact⟨λh=>by omega,λh=>absurd h h2⟩
theorem X4 {N:Nat}{x y:Rat}(hx:Bd N x) (hy:Bd N y) (hN:N<Bs ^ 24):OkP (toP x y):=⟨(hx.fit hN).ok,(hy.fit hN).ok⟩
theorem kT {x0 y0 x1 y1 x2 y2:Rat}(a0:Bd 19652 x0) (b0:Bd 19652 y0) (a1:Bd 19652 x1) (b1:Bd 19652 y1) (a2:Bd 19652 x2) (b2:Bd 19652 y2) (h:0<K5 x0 y0 x1 y1 x2 y2):Q5 [toP x0 y0,toP x1 y1,toP x2 y2]=true:=by
 obtain⟨e,hd⟩:=qaS a0 b0 a1 b1 a2 b2
 refine kK ⟨?_,_,_,_,rfl,by rw[e];exact(kF hd (by decide)).2 h⟩
 intro k hk
 simp only[List.length_cons,List.length_nil]at hk
 rcases(show k=0\/k=1\/k=2 by omega)with rfl|rfl|rfl
 ·exact X4 a0 b0 (by decide)
 ·exact X4 a1 b1 (by decide)
 ·exact X4 a2 b2 (by decide)
theorem qdF {a b c d e:PtD}(h0:¬0<Zi (Yc a b c)) (h1:¬0<Zi (Yc a b d)) (h2:¬0<Zi (Yc a b e)):Qn a b [c,d,e]:=by
 intro k hk
 simp only[List.length_cons,List.length_nil]at hk
 rcases(show k=0\/k=1\/k=2 by omega)with rfl|rfl|rfl
 ·exact h0
 ·exact h1
 ·exact h2
end
def Jo (g:Nat) (w:World) (A:Option Addr) (n c:Nat) (l:List Int) (s:Int × Int):Prop :=
 Blk w g 137 #[.slice A n c,.int .i64 s.1,.int .i64 s.2]/\0<=s.1/\s.1<=n/\RdB w A n c l/\∀ad,A=Option.some ad->0<n->ad.block≠g
theorem Jo.bl {g n c:Nat}{w W:World}{A:Option Addr}{l:List Int}{s:Int × Int}(h:Jo g w A n c l s) (hb:Bl w W):Jo g W A n c l s:=by
 obtain⟨h1,h2,h3,h4,h5⟩:=h
 exact⟨h1.bl hb,h2,h3,h4.bl hb,h5⟩
theorem Jo.lt {g n c:Nat}{w:World}{A:Option Addr}{l:List Int}{s:Int × Int}(h:Jo g w A n c l s):g<w.heap.size:=h.1.lt
def Xk (h:Int):Int:=wrap64 (wrap64 (h*6364136223846793005)+1442695040888963407)
def qcM (h:Int):Int:=bits .and .i64 (bits .xor .i64 (h / 8589934592) (h / 35184372088832)) 255
def byF (l:List Int) (s:Int × Int):Int × (Int × Int) :=
 if s.1<(l.length:Int)then (bits .and .i64 (IntKind.i64.wrap (qcM (Xk s.2)+IntKind.i64.wrap (pix l s.1.toNat))) 255,(s.1+1,Xk s.2))else (qcM (Xk s.2),(s.1,Xk s.2))
def beF (l:List Int) (s:Int × Int) (m:Int):Int × (Int × Int):=((byF l s).1 % m,(byF l s).2)
def hsS (h b:Int):Int:=bits .and .i64 (wrap64 (wrap64 (wrap64 (h*67)+b)+7)) 1073741823
def qdV (l:List Int):Nat->Int
 | 0=>wrap64 (1949+(l.length:Int))
 | k+1=>hsS (qdV l k) (pix l k)
def nwS (l:List Int):Int × Int:=(0,qdV l (min l.length 4000))
theorem KU (w:World) {g n c:Nat}{A:Option Addr}{l:List Int}{s:Int × Int}(hC:Jo g w A n c l s) :
  Calls Tryz.prog 95 #[.pointer (some ⟨g,0,none⟩)] w λe w'=>e=.returned (.int .i64 (byF l s).1)/\0<=(byF l s).1/\(byF l s).1<=255/\Jo g w' A n c l (byF l s).2/\Ob [g] w w':=by
 obtain⟨i,h⟩:=s
 obtain⟨hB,hi0,hin,hR,hne⟩:=hC
 dsimp only at hB hi0 hin
 have hln:=hR.len
 have hs:=hR.small
 obtain⟨x0,x1,x2⟩:=bx3 hB
 have f1:=hB.frozen 1
 have f2:=hB.frozen 2
 have hg:=hB.lt
 have hv:byF l (i,h)=(if i<(l.length:Int)then (bits .and .i64 (IntKind.i64.wrap (qcM (Xk h)+IntKind.i64.wrap (pix l i.toNat))) 255,(i+1,Xk h))else (qcM (Xk h),(i,Xk h))):=rfl
 replace hv:=Lib.hid hv
 by_cases hlt:i<(n:Int)
 ·obtain⟨k,rfl⟩:=Int.eq_ofNat_of_zero_le hi0
  have hkn:k<n:=by omega
  obtain⟨ad,rfl,_⟩:=hR.cells k hkn
  have hna:=hne ad rfl (by omega)
  go_enter Tryz.func95,Tryz.ntmps95
  go_wp2_with fail
  refine qe (λW=>∃h',h'=Xk h/\Blk W g 137 #[.slice (some ad) n c,.int .i64 (k:Int),.int .i64 h']/\Ob [g] w W) ⟨Xk h,rfl,by simpa [Xk]using hB.set_ 2 (.int .i64 (Xk h)),(Ob.refl _ w).set (by simp) _ _⟩ ?_
  clear x0 x1 x2 f1 f2 hB
  rintro W ⟨h',hh,hB,hO⟩
  replace hh:=Lib.hid hh
  have hR:=hR.ob hne hO
  go_region_held3 (λw'=>(w'.cell? ⟨g,0,none⟩=some (.slice (some ad) n c)/\w'.cell? ⟨g,1,none⟩=some (.int .i64 (k:Int))/\w'.cell? ⟨g,2,none⟩=some (.int .i64 h'))) (first|exact bx3 (T:=137) (hB.bl slc)) (fail)
  obtain⟨hx0,hx1⟩:=kX (bits .xor .i64 (h' / 8589934592) (h' / 35184372088832))
  have hx:=Lib.hid (show qcM h'=bits .and .i64 (bits .xor .i64 (h' / 8589934592) (h' / 35184372088832)) 255 from rfl)
  generalize bits .and .i64 (bits .xor .i64 (h' / 8589934592) (h' / 35184372088832)) 255=x at *
  go_wp2_with fail
  go_region_held3 (λw'=>(w'.cell? ⟨g,0,none⟩=some (.slice (some ad) n c)/\w'.cell? ⟨g,1,none⟩=some (.int .i64 (k:Int))/\w'.cell? ⟨g,2,none⟩=some (.int .i64 h'))) (first|exact bx3 (T:=137) (hB.bl slc)) (fail)
  obtain⟨_,e,hlt2,hc,hb0,hb1⟩:=hR.cells k hkn
  cases e
  rw[Nat.mul_one]at hc
  have hy:=Lib.hid (show pix l ((k:Int)).toNat=pix l k from rfl)
  generalize pix l k=y at hc hb0 hb1 hy
  have hlt3:(ad.add k).block<W.heap.size:=by rw[qQ];exact hlt2
  go_wp2_with fail
  go_region_held3 (λw'=>(w'.cell? ⟨g,0,none⟩=some (.slice (some ad) n c)/\w'.cell? ⟨g,1,none⟩=some (.int .i64 (k:Int))/\w'.cell? ⟨g,2,none⟩=some (.int .i64 h'))/\w'.cell? (ad.add k)=some (.int .u8 y)) (first|exact⟨bx3 (T:=137) (hB.bl slc),(Bl.qeV (w:=W) (p:=ad.add k) slc hlt3).trans hc⟩) (fail)
  obtain⟨hz0,hz1⟩:=kX (IntKind.i64.wrap (x+IntKind.i64.wrap y))
  have hz:=Lib.hid (show bits .and .i64 (IntKind.i64.wrap (x+IntKind.i64.wrap y)) 255=bits .and .i64 (IntKind.i64.wrap (x+IntKind.i64.wrap y)) 255 from rfl)
  generalize hzz:bits .and .i64 (IntKind.i64.wrap (x+IntKind.i64.wrap y)) 255=z at *
  replace hzz:=Lib.hid hzz
  obtain⟨x0,x1,x2⟩:=bx3 hB
  have f1:=hB.frozen 1
  go_wp2_with fail
  go_ret
  have hC2:Jo g (W.setCell ⟨g,1,none⟩ (.int .i64 ((k:Int)+1))) (some ad) n c l ((k:Int)+1,h'):=⟨by simpa using hB.set_ 1 (.int .i64 ((k:Int)+1)),by simp only;omega,by simp only;omega,hR.ob hne ((Ob.refl [g] W).set (by simp) _ _),hne⟩
  have hO2:=hO.set (g:=g) (by simp) 1 (.int .i64 ((k:Int)+1))
  have hv:=hv.out
  rw[if_pos (by rw[hln];exact hlt),<-hh.out,hx.out,hy.out,hzz.out]at hv
  rw[hv]
  exact⟨rfl,hz0,hz1,hC2.bl slc,hO2.trans (Ob.of_bl slc _)⟩
 ·have hnlt:¬i<(n:Int):=hlt
  go_enter Tryz.func95,Tryz.ntmps95
  go_wp2_with fail
  refine qe (λW=>∃h',h'=Xk h/\Blk W g 137 #[.slice A n c,.int .i64 i,.int .i64 h']/\Ob [g] w W) ⟨Xk h,rfl,by simpa [Xk]using hB.set_ 2 (.int .i64 (Xk h)),(Ob.refl _ w).set (by simp) _ _⟩ ?_
  clear x0 x1 x2 f1 f2 hB
  rintro W ⟨h',hh,hB,hO⟩
  replace hh:=Lib.hid hh
  have hR:=hR.ob hne hO
  go_region_held3 (λw'=>(w'.cell? ⟨g,0,none⟩=some (.slice A n c)/\w'.cell? ⟨g,1,none⟩=some (.int .i64 i)/\w'.cell? ⟨g,2,none⟩=some (.int .i64 h'))) (first|exact bx3 (T:=137) (hB.bl slc)) (fail)
  obtain⟨hx0,hx1⟩:=kX (bits .xor .i64 (h' / 8589934592) (h' / 35184372088832))
  have hx:=Lib.hid (show qcM h'=bits .and .i64 (bits .xor .i64 (h' / 8589934592) (h' / 35184372088832)) 255 from rfl)
  generalize bits .and .i64 (bits .xor .i64 (h' / 8589934592) (h' / 35184372088832)) 255=x at *
  go_wp2_with fail
  go_region_held3 (λw'=>(w'.cell? ⟨g,0,none⟩=some (.slice A n c)/\w'.cell? ⟨g,1,none⟩=some (.int .i64 i)/\w'.cell? ⟨g,2,none⟩=some (.int .i64 h'))) (first|exact bx3 (T:=137) (hB.bl slc)) (fail)
  go_wp2_with fail
  go_ret
  have hv:=hv.out
  rw[if_neg (by rw[hln];omega),<-hh.out,hx.out]at hv
  rw[hv]
  exact⟨rfl,hx0,hx1,(show Jo g W A n c l (i,h')from ⟨hB,hi0,hin,hR,hne⟩).bl slc,hO.trans (Ob.of_bl slc _)⟩
theorem yM (w:World) {g n c:Nat}{A:Option Addr}{l:List Int}{s:Int × Int}(m:Int) (hm0:0<m) (hm1:m<=256) (hC:Jo g w A n c l s) :
  Calls Tryz.prog 91 #[.pointer (some ⟨g,0,none⟩),.int .i64 m] w λe w'=>e=.returned (.int .i64 (beF l s m).1)/\0<=(beF l s m).1/\(beF l s m).1<m/\Jo g w' A n c l (beF l s m).2/\Ob [g] w w':=by
 have hm2:¬m<=0:=by omega
 have hm3:¬m=0:=by omega
 go_enter Tryz.func91,Tryz.ntmps91
 go_wp2_with fail
 have hv:=Lib.hid (show beF l s m=((byF l s).1 % m,(byF l s).2)from rfl)
 refine(KU _ hC).mono ?_
 rintro e w1 ⟨rfl,hx0,hx1,hC1,hO⟩
 generalize (byF l s).1=x at hv hx0 hx1 ⊢
 have ht:x.tmod m=x % m:=by rw[Int.tmod_eq_emod_of_nonneg hx0]
 have hx2:=Int.emod_nonneg x (show m≠0 by omega)
 have hx3:=Int.emod_lt_of_pos x hm0
 go_wp2_with fail
 go_ret
 rw[hv.out]
 exact⟨rfl,hx2,hx3,hC1,hO⟩
theorem qaG (w:World) {A:Option Addr}{n c:Nat}{l:List Int}(h:RdB w A n c l) :
  Calls Tryz.prog 57 #[.slice A n c] w λe w'=>∃g,e=.returned (.pointer (some ⟨g,0,none⟩))/\w.heap.size<=g/\Jo g w' A n c l (nwS l)/\Bl w w':=by
 have hn:=h.small
 have hln:=Lib.hid h.len
 go_enter Tryz.func57,Tryz.ntmps57
 go_wp2_with fail
 go_loopw [3,4] (λv i wr=>∃(k:Nat) (z:Int),k<=n/\k<=4000/\i=.int .i64 (k:Int)/\v=.int .i64 z/\Hid (z=qdV l k)/\Bl w wr) (λ_ i _=>n-(intOf i).toNat)
 case atStart=>exact⟨0,_,Nat.zero_le _,Nat.zero_le _,rfl,rfl,Lib.hid (by rw[<-hln.out];rfl),Bl.refl _⟩
 case round=>
  obtain⟨k,z,hk,hk4,rfl,rfl,hz,hbw⟩:=hrel
  by_cases hkn:k<n
  ·have hki:(k:Int)<(n:Int):=by omega
   by_cases hk5:k<4000
   ·have hki2:(k:Int)<4000:=by omega
    obtain⟨ad,rfl,hlt,hc,hb0,hb1⟩:=(RdB.bl h hbw).cells k hkn
    rw[Nat.mul_one]at hc
    have hs1:=Lib.hid (show qdV l (k+1)=hsS z (pix l k)by rw[hz.out];rfl)
    unfold hsS at hs1
    clear hz
    go_wp2_with fail
    go_roundw
    case rel=>exact⟨k+1,_,by omega,by omega,by go_num,rfl,Lib.hid hs1.out.symm,slc⟩
    case measure=>simp[intOf];omega
   ·have hd1:decide ((k:Int)<4000)=false:=by simp;omega
    have hnw:=Lib.hid (show nwS l=(0,z)by unfold nwS;rw[hz.out,hln.out,show min n 4000=k by omega])
    go_wp2_with fail
    go_ret
    exact⟨wr.heap.size,rfl,hbw.size,⟨by rw[hnw.out];exact Blk.new _ _ _,by simp[nwS],by simp[nwS],RdB.bl h (hbw.alloc _),λad e hn0=>by subst e;obtain⟨_,e,hl,_⟩:=h.cells 0 hn0;cases e;have:=hbw.size;omega⟩,slc⟩
  ·have hd2:decide ((k:Int)<(n:Int))=false:=by simp;omega
   have hnw:=Lib.hid (show nwS l=(0,z)by unfold nwS;rw[hz.out,hln.out,show min n 4000=k by omega])
   go_wp2_with fail
   go_ret
   exact⟨wr.heap.size,rfl,hbw.size,⟨by rw[hnw.out];exact Blk.new _ _ _,by simp[nwS],by simp[nwS],RdB.bl h (hbw.alloc _),λad e hn0=>by subst e;obtain⟨_,e,hl,_⟩:=h.cells 0 hn0;cases e;have:=hbw.size;omega⟩,slc⟩
end Go.Proofs.YtjaapemopbbfaaaGreatDoor
