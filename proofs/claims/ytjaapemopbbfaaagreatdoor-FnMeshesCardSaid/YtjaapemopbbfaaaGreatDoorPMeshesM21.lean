import Derived.Test.YtjaapemopbbfaaaGreatDoorPMeshesM20
namespace Go.Proofs.YtjaapemopbbfaaaGreatDoor
open Go.RowKit
set_option maxRecDepth 100000
set_option maxHeartbeats 8000000
theorem ki (r s:qH):J4 r s=zR\/OkR (J4 r s):=by
 unfold J4
 split
 ·rename_i h
  exact YG (Nat.mul_pos h.1.get.2.1 h.2.get.2.1)
 ·exact .inl rfl
theorem Vt {r:qH}(h:r=zR\/OkR r):(¬r.den.length=0)↔OkR r:=by
 rcases h with h|h
 ·subst h
  exact⟨λh=>absurd rfl h,λh=>absurd h Kq⟩
 ·refine⟨λ_=>h,λ_=>?_⟩
  have g:=h.get
  rw[g.1]
  unfold raw
  simp only
  rw[qg]
  have:=ql.2 g.2.1
  omega
theorem qN (w:World) {s:Bool}{A:Option Addr}{n c:Nat}{B:Option Addr}{m d:Nat}{t:Bool}{C:Option Addr}{i e:Nat}{D:Option Addr}{j f:Nat}{p:PtD}(h:RdR w s A n c B m d p.x) (k:RdR w t C i e D j f p.y) (ho:OkP p) :
  Calls Tryz.prog 244 #[.agg #[.bool s,.slice A n c,.slice B m d,.bool t,.slice C i e,.slice D j f]] w λen w'=>en=.returned (.bool true)/\Bl w w':=by
 have h1:=zM ho.1
 have h2:=zM ho.2
 clear ho
 go_enter Tryz.func244,Tryz.ntmps244
 go_wp2_with fail
 refine(qw _ (h.bl slc)).mono ?_
 rw[h1]
 rintro e w1 ⟨rfl,hb1⟩
 obtain⟨i0,i1,i2,i3,i4,i5⟩:=qd1 hb1
 have hb1:Bl w w1:=slc
 go_wp2_with fail
 refine(qw _ (k.bl hb1)).mono ?_
 rw[h2]
 rintro e w2 ⟨rfl,hb2⟩
 go_wp2_with fail
 go_ret
 exact⟨rfl,slc⟩
theorem JN (w:World) {s:Bool}{A:Option Addr}{n c:Nat}{B:Option Addr}{m d:Nat}{t:Bool}{C:Option Addr}{i e:Nat}{D:Option Addr}{j f:Nat}{p:PtD}(h:RdR w s A n c B m d p.x) (k:RdR w t C i e D j f p.y) (ho:¬OkP p) :
  Calls Tryz.prog 244 #[.agg #[.bool s,.slice A n c,.slice B m d,.bool t,.slice C i e,.slice D j f]] w λen w'=>en=.returned (.bool false)/\Bl w w':=by
 by_cases g1:OkR p.x
 ·have h1:=zM g1
  have h2:=yq (λg2=>ho ⟨g1,g2⟩)
  clear ho g1
  go_enter Tryz.func244,Tryz.ntmps244
  go_wp2_with fail
  refine(qw _ (h.bl slc)).mono ?_
  rw[h1]
  rintro e w1 ⟨rfl,hb1⟩
  obtain⟨i0,i1,i2,i3,i4,i5⟩:=qd1 hb1
  have hb1:Bl w w1:=slc
  go_wp2_with fail
  refine(qw _ (k.bl hb1)).mono ?_
  rw[h2]
  rintro e w2 ⟨rfl,hb2⟩
  go_wp2_with fail
  go_ret
  exact⟨rfl,slc⟩
 ·have h1:=yq g1
  clear ho
  replace g1:=Lib.hid g1
  go_enter Tryz.func244,Tryz.ntmps244
  go_wp2_with fail
  refine(qw _ (h.bl slc)).mono ?_
  rw[h1]
  rintro e w1 ⟨rfl,hb1⟩
  obtain⟨i0,i1,i2,i3,i4,i5⟩:=qd1 hb1
  have hb1:Bl w w1:=slc
  go_wp2_with fail
  go_ret
  exact⟨rfl,slc⟩
theorem Qr (w:World) {b0:Nat}{s:Bool}{A:Option Addr}{n c:Nat}{B:Option Addr}{m d:Nat}{t:Bool}{C:Option Addr}{i e:Nat}{D:Option Addr}{j f:Nat}{p:PtD}(h:OwP 3 b0 w s A n c B m d t C i e D j f p) (_hb0:b0<=w.heap.size) (hpx:p.x=zR\/OkR p.x) (hpy:p.y=zR\/OkR p.y) :
  Calls Tryz.prog 242 #[.agg #[.bool s,.slice A n c,.slice B m d,.bool t,.slice C i e,.slice D j f]] w λen w'=>∃s1 A1 n1 c1 B1 m1 d1 t1 C1 i1 e1 D1 j1 f1,en=.returned (.agg #[.bool s1,.slice A1 n1 c1,.slice B1 m1 d1,.bool t1,.slice C1 i1 e1,.slice D1 j1 f1])/\OwP 3 b0 w' s1 A1 n1 c1 B1 m1 d1 t1 C1 i1 e1 D1 j1 f1 (ifP p)/\Bl w w':=by
 have e1:=Vt hpx
 have e2:=Vt hpy
 clear hpx hpy
 by_cases ho:OkP p
 ·have hv:=Lib.hid (show ifP p=p by
   unfold ifP
   rw[if_neg (λhk=>by
    rcases hk with hk|hk
    ·exact e1.2 ho.1 hk
    ·exact e2.2 ho.2 hk)])
  clear e1 e2
  replace ho:=Lib.hid ho
  go_enter Tryz.func242,Tryz.ntmps242
  go_wp2_with fail
  refine qd (λW=>Bl w W/\Blk W (w.heap.size) 28 #[.bool s,.slice A n c,.slice B m d,.bool t,.slice C i e,.slice D j f]/\Wk 6 28 (w.heap.size+1) W) ⟨slc,bts,bts⟩ ?_
  rintro W ⟨hbW,hx,hr⟩
  refine(qN _ (h.rx.bl hbW) (h.ry.bl hbW) ho.out).mono ?_
  rintro e w1 ⟨rfl,hb1⟩
  have hx:=hx.bl hb1
  have hr:=hr.bl hb1
  have hbW:=hbW.next hb1
  clear hb1
  obtain⟨i0,i1,i2,i3,i4,i5⟩:=bx6 hx
  obtain⟨v0,x0⟩:=hr.val_ (i:=0) (by omega)
  obtain⟨v1,x1⟩:=hr.val_ (i:=1) (by omega)
  obtain⟨v2,x2⟩:=hr.val_ (i:=2) (by omega)
  obtain⟨v3,x3⟩:=hr.val_ (i:=3) (by omega)
  obtain⟨v4,x4⟩:=hr.val_ (i:=4) (by omega)
  obtain⟨v5,x5⟩:=hr.val_ (i:=5) (by omega)
  have hg:=hr.lt
  obtain⟨cs4,hB4,hc4⟩:=hr
  have hf0:=hB4.frozen 0
  have hf1:=hB4.frozen 1
  have hf2:=hB4.frozen 2
  have hf3:=hB4.frozen 3
  have hf4:=hB4.frozen 4
  have hf5:=hB4.frozen 5
  go_wp2_with fail
  exact bodyPost_ret (v:=.agg #[.bool s,.slice A n c,.slice B m d,.bool t,.slice C i e,.slice D j f]) (by simp[results,Tryz.results242,go_sem,x0,x1,x2,x3,x4,x5]) rfl ⟨_,_,_,_,_,_,_,_,_,_,_,_,_,_,rfl,by rw[hv.out];exact h.bl slc,slc⟩
 ·have hv:=Lib.hid (show ifP p=zP by
   unfold ifP
   by_cases hk:p.x.den.length=0\/p.y.den.length=0
   ·rw[if_pos hk]
   ·exact absurd ⟨e1.1 (λh=>hk (.inl h)),e2.1 (λh=>hk (.inr h))⟩ ho)
  clear e1 e2
  replace ho:=Lib.hid ho
  go_enter Tryz.func242,Tryz.ntmps242
  go_wp2_with fail
  refine qd (λW=>Bl w W/\Blk W (w.heap.size) 28 #[.bool s,.slice A n c,.slice B m d,.bool t,.slice C i e,.slice D j f]/\Wk 6 28 (w.heap.size+1) W) ⟨slc,bts,bts⟩ ?_
  rintro W ⟨hbW,hx,hr⟩
  refine(JN _ (h.rx.bl hbW) (h.ry.bl hbW) ho.out).mono ?_
  rintro e w1 ⟨rfl,hb1⟩
  have hx:=hx.bl hb1
  have hr:=hr.bl hb1
  have hbW:=hbW.next hb1
  clear hb1
  obtain⟨i0,i1,i2,i3,i4,i5⟩:=bx6 hx
  obtain⟨v0,x0⟩:=hr.val_ (i:=0) (by omega)
  obtain⟨v1,x1⟩:=hr.val_ (i:=1) (by omega)
  obtain⟨v2,x2⟩:=hr.val_ (i:=2) (by omega)
  obtain⟨v3,x3⟩:=hr.val_ (i:=3) (by omega)
  obtain⟨v4,x4⟩:=hr.val_ (i:=4) (by omega)
  obtain⟨v5,x5⟩:=hr.val_ (i:=5) (by omega)
  have hg:=hr.lt
  obtain⟨cs4,hB4,hc4⟩:=hr
  have hf0:=hB4.frozen 0
  have hf1:=hB4.frozen 1
  have hf2:=hB4.frozen 2
  have hf3:=hB4.frozen 3
  have hf4:=hB4.frozen 4
  have hf5:=hB4.frozen 5
  go_wp2_with fail
  exact bodyPost_ret (v:=.agg #[.bool false,.slice none 0 0,.slice none 0 0,.bool false,.slice none 0 0,.slice none 0 0]) (by simp[results,Tryz.results242,go_sem,x0,x1,x2,x3,x4,x5]) rfl ⟨_,_,_,_,_,_,_,_,_,_,_,_,_,_,rfl,by rw[hv.out];exact OwP.zero _ _ _,slc⟩
theorem zp (w:World) {s:Bool}{A:Option Addr}{n c:Nat}{B:Option Addr}{m d:Nat}{t:Bool}{C:Option Addr}{i e:Nat}{D:Option Addr}{j f:Nat}{p:PtD}{s':Bool}{A':Option Addr}{n' c':Nat}{B':Option Addr}{m' d':Nat}{t':Bool}{C':Option Addr}{i' e':Nat}{D':Option Addr}{j' f':Nat}{p':PtD}(h:RdR w s A n c B m d p.x) (k:RdR w t C i e D j f p.y) (h':RdR w s' A' n' c' B' m' d' p'.x) (k':RdR w t' C' i' e' D' j' f' p'.y) :
  Calls Tryz.prog 252 #[.agg #[.bool s,.slice A n c,.slice B m d,.bool t,.slice C i e,.slice D j f],.agg #[.bool s',.slice A' n' c',.slice B' m' d',.bool t',.slice C' i' e',.slice D' j' f']] w λen w'=>∃s1 A1 n1 c1 B1 m1 d1 t1 C1 i1 e1 D1 j1 f1,en=.returned (.agg #[.bool s1,.slice A1 n1 c1,.slice B1 m1 d1,.bool t1,.slice C1 i1 e1,.slice D1 j1 f1])/\OwP 3 w.heap.size w' s1 A1 n1 c1 B1 m1 d1 t1 C1 i1 e1 D1 j1 f1 (K8 p p')/\Bl w w':=by
 go_enter Tryz.func252,Tryz.ntmps252
 go_wp2_with fail
 refine qe (λW=>Bl w W/\Blk W (w.heap.size) 28 #[.bool s,.slice A n c,.slice B m d,.bool t,.slice C i e,.slice D j f]/\Blk W (w.heap.size+1) 28 #[.bool s',.slice A' n' c',.slice B' m' d',.bool t',.slice C' i' e',.slice D' j' f']/\Wk 6 28 (w.heap.size+1+1) W) ⟨slc,bts,bts,bts⟩ ?_
 rintro W ⟨hbW,hx,hx',hr⟩
 go_region_held3 (λw'=>(w'.cell? ⟨w.heap.size,0,none⟩=some (.bool s)/\w'.cell? ⟨w.heap.size,1,none⟩=some (.slice A n c)/\w'.cell? ⟨w.heap.size,2,none⟩=some (.slice B m d)/\w'.cell? ⟨w.heap.size,3,none⟩=some (.bool t)/\w'.cell? ⟨w.heap.size,4,none⟩=some (.slice C i e)/\w'.cell? ⟨w.heap.size,5,none⟩=some (.slice D j f))/\(w'.cell? ⟨w.heap.size+1,0,none⟩=some (.bool s')/\w'.cell? ⟨w.heap.size+1,1,none⟩=some (.slice A' n' c')/\w'.cell? ⟨w.heap.size+1,2,none⟩=some (.slice B' m' d')/\w'.cell? ⟨w.heap.size+1,3,none⟩=some (.bool t')/\w'.cell? ⟨w.heap.size+1,4,none⟩=some (.slice C' i' e')/\w'.cell? ⟨w.heap.size+1,5,none⟩=some (.slice D' j' f'))/\(w'.cell? ⟨w.heap.size+1+1,0,none⟩=some (qh w' (w.heap.size+1+1) 0)/\w'.cell? ⟨w.heap.size+1+1,1,none⟩=some (qh w' (w.heap.size+1+1) 1)/\w'.cell? ⟨w.heap.size+1+1,2,none⟩=some (qh w' (w.heap.size+1+1) 2)/\w'.cell? ⟨w.heap.size+1+1,3,none⟩=some (qh w' (w.heap.size+1+1) 3)/\w'.cell? ⟨w.heap.size+1+1,4,none⟩=some (qh w' (w.heap.size+1+1) 4)/\w'.cell? ⟨w.heap.size+1+1,5,none⟩=some (qh w' (w.heap.size+1+1) 5))/\w'.frozen? ⟨w.heap.size+1+1,0,none⟩=false/\w'.frozen? ⟨w.heap.size+1+1,1,none⟩=false/\w'.frozen? ⟨w.heap.size+1+1,2,none⟩=false/\w'.frozen? ⟨w.heap.size+1+1,3,none⟩=false/\w'.frozen? ⟨w.heap.size+1+1,4,none⟩=false/\w'.frozen? ⟨w.heap.size+1+1,5,none⟩=false) (first|exact⟨bx6 (T:=28) bts,bx6 (T:=28) bts,Wk.out6 (T:=28) bts⟩) (first |(go_at_call 275;with_reducible refine(Zk _ (h.bl slc) (h'.bl slc)).mono ?_;rintro en w2 ⟨s2,A2,n2,c2,B2,m2,d2,rfl,hR2,hb2⟩) |(go_at_call 275;with_reducible refine(Zk _ (k.bl slc) (k'.bl slc)).mono ?_;rintro en w3 ⟨s3,A3,n3,c3,B3,m3,d3,rfl,hR3,hb3⟩) |(go_at_call 242;refine(Qr (p:=⟨J4 p.x p'.x,J4 p.y p'.y⟩) _ (OwP.two hR2 hR3 hb3 (Bl.size hb2)) (Nat.le_trans (Bl.size hb2) (Bl.size hb3)) (ki _ _) (ki _ _)).mono ?_;rintro en w4 ⟨s1,A1,n1,c1,B1,m1,d1,t1,C1,i1,e1,D1,j1,f1,rfl,hX,hb4⟩))
 have hz:w.heap.size+1+1+1<=W.heap.size:=hr.lt
 have hr:=(show Wk 6 28 (w.heap.size+1+1) w4 from bts)
 have hbW:Bl w w4:=slc
 have hX:=hX.low (show w.heap.size+1+1+1<=W.drew.heap.size from hz)
 obtain⟨v0,x0⟩:=hr.val_ (i:=0) (by omega)
 obtain⟨v1,x1⟩:=hr.val_ (i:=1) (by omega)
 obtain⟨v2,x2⟩:=hr.val_ (i:=2) (by omega)
 obtain⟨v3,x3⟩:=hr.val_ (i:=3) (by omega)
 obtain⟨v4,x4⟩:=hr.val_ (i:=4) (by omega)
 obtain⟨v5,x5⟩:=hr.val_ (i:=5) (by omega)
 have hg:=hr.lt
 obtain⟨cs4,hB4,hc4⟩:=hr
 have hf0:=hB4.frozen 0
 have hf1:=hB4.frozen 1
 have hf2:=hB4.frozen 2
 have hf3:=hB4.frozen 3
 have hf4:=hB4.frozen 4
 have hf5:=hB4.frozen 5
 go_wp2_with fail
 exact bodyPost_ret (v:=.agg #[.bool s1,.slice A1 n1 c1,.slice B1 m1 d1,.bool t1,.slice C1 i1 e1,.slice D1 j1 f1]) (by simp[results,Tryz.results252,go_sem,x0,x1,x2,x3,x4,x5]) rfl ⟨_,_,_,_,_,_,_,_,_,_,_,_,_,_,rfl,((((((hX.far (by simp) _).far (by simp) _).far (by simp) _).far (by simp) _).far (by simp) _).far (by simp) _).low (by omega),slc⟩
theorem Uy (w:World) {s:Bool}{A:Option Addr}{n c:Nat}{B:Option Addr}{m d:Nat}{t:Bool}{C:Option Addr}{i e:Nat}{D:Option Addr}{j f:Nat}{p:PtD}{s':Bool}{A':Option Addr}{n' c':Nat}{B':Option Addr}{m' d':Nat}{t':Bool}{C':Option Addr}{i' e':Nat}{D':Option Addr}{j' f':Nat}{p':PtD}(h:RdR w s A n c B m d p.x) (k:RdR w t C i e D j f p.y) (h':RdR w s' A' n' c' B' m' d' p'.x) (k':RdR w t' C' i' e' D' j' f' p'.y) :
  Calls Tryz.prog 273 #[.agg #[.bool s,.slice A n c,.slice B m d,.bool t,.slice C i e,.slice D j f],.agg #[.bool s',.slice A' n' c',.slice B' m' d',.bool t',.slice C' i' e',.slice D' j' f']] w λen w'=>∃s1 A1 n1 c1 B1 m1 d1,en=.returned (.agg #[.bool s1,.slice A1 n1 c1,.slice B1 m1 d1])/\OwR 3 w.heap.size w' s1 A1 n1 c1 B1 m1 d1 (xH p p')/\Bl w w':=by
 go_enter Tryz.func273,Tryz.ntmps273
 go_wp2_with fail
 refine qe (λW=>Bl w W/\Blk W (w.heap.size) 28 #[.bool s,.slice A n c,.slice B m d,.bool t,.slice C i e,.slice D j f]/\Blk W (w.heap.size+1) 28 #[.bool s',.slice A' n' c',.slice B' m' d',.bool t',.slice C' i' e',.slice D' j' f']/\Wk 3 26 (w.heap.size+1+1) W) ⟨slc,bts,bts,bts⟩ ?_
 rintro W ⟨hbW,hx,hx',hr⟩
 go_region_held3 (λw'=>(w'.cell? ⟨w.heap.size,0,none⟩=some (.bool s)/\w'.cell? ⟨w.heap.size,1,none⟩=some (.slice A n c)/\w'.cell? ⟨w.heap.size,2,none⟩=some (.slice B m d)/\w'.cell? ⟨w.heap.size,3,none⟩=some (.bool t)/\w'.cell? ⟨w.heap.size,4,none⟩=some (.slice C i e)/\w'.cell? ⟨w.heap.size,5,none⟩=some (.slice D j f))/\(w'.cell? ⟨w.heap.size+1,0,none⟩=some (.bool s')/\w'.cell? ⟨w.heap.size+1,1,none⟩=some (.slice A' n' c')/\w'.cell? ⟨w.heap.size+1,2,none⟩=some (.slice B' m' d')/\w'.cell? ⟨w.heap.size+1,3,none⟩=some (.bool t')/\w'.cell? ⟨w.heap.size+1,4,none⟩=some (.slice C' i' e')/\w'.cell? ⟨w.heap.size+1,5,none⟩=some (.slice D' j' f'))/\(w'.cell? ⟨w.heap.size+1+1,0,none⟩=some (qh w' (w.heap.size+1+1) 0)/\w'.cell? ⟨w.heap.size+1+1,1,none⟩=some (qh w' (w.heap.size+1+1) 1)/\w'.cell? ⟨w.heap.size+1+1,2,none⟩=some (qh w' (w.heap.size+1+1) 2))/\w'.frozen? ⟨w.heap.size+1+1,0,none⟩=false/\w'.frozen? ⟨w.heap.size+1+1,1,none⟩=false/\w'.frozen? ⟨w.heap.size+1+1,2,none⟩=false) (first|exact⟨bx6 (T:=28) bts,bx6 (T:=28) bts,Wk.out3 (T:=26) bts⟩) (first |(go_at_call 243;with_reducible refine(jy _ (h.bl slc) (k'.bl slc)).mono ?_;rintro en w2 ⟨s2,A2,n2,c2,B2,m2,d2,rfl,hR2,hb2⟩) |(go_at_call 243;with_reducible refine(jy _ (k.bl slc) (h'.bl slc)).mono ?_;rintro en w3 ⟨s3,A3,n3,c3,B3,m3,d3,rfl,hR3,hb3⟩) |(go_at_call 275;refine(Zk _ (hR2.rd.bl hb3) hR3.rd).mono ?_;rintro en w4 ⟨s1,A1,n1,c1,B1,m1,d1,rfl,hR,hb4⟩))
 have hz:w.heap.size+1+1+1<=W.heap.size:=hr.lt
 have hz2:W.heap.size<=w2.heap.size:=(Bl.size hb2:W.drew.heap.size<=_)
 have hz3:w2.heap.size<=w3.heap.size:=Bl.size hb3
 have hr:=(show Wk 3 26 (w.heap.size+1+1) w4 from bts)
 have hbW:Bl w w4:=slc
 have hR:=hR.mono (show w.heap.size+1+1+1<=w3.heap.size by omega)
 obtain⟨v0,x0⟩:=hr.val_ (i:=0) (by omega)
 obtain⟨v1,x1⟩:=hr.val_ (i:=1) (by omega)
 obtain⟨v2,x2⟩:=hr.val_ (i:=2) (by omega)
 have hg:=hr.lt
 obtain⟨cs4,hB4,hc4⟩:=hr
 have hf0:=hB4.frozen 0
 have hf1:=hB4.frozen 1
 have hf2:=hB4.frozen 2
 go_wp2_with fail
 exact bodyPost_ret (v:=.agg #[.bool s1,.slice A1 n1 c1,.slice B1 m1 d1]) (by simp[results,Tryz.results273,go_sem,x0,x1,x2]) rfl ⟨_,_,_,_,_,_,_,rfl,(((hR.far (by simp) _).far (by simp) _).far (by simp) _).mono (by omega),slc⟩
theorem zK (w:World) {s:Bool}{A:Option Addr}{n c:Nat}{B:Option Addr}{m d:Nat}{t:Bool}{C:Option Addr}{i e:Nat}{D:Option Addr}{j f:Nat}{p:PtD}{s':Bool}{A':Option Addr}{n' c':Nat}{B':Option Addr}{m' d':Nat}{t':Bool}{C':Option Addr}{i' e':Nat}{D':Option Addr}{j' f':Nat}{p':PtD}{s2:Bool}{A2:Option Addr}{n2 c2:Nat}{B2:Option Addr}{m2 d2:Nat}{t2:Bool}{C2:Option Addr}{i2 e2:Nat}{D2:Option Addr}{j2 f2:Nat}{p2:PtD}(h:RdR w s A n c B m d p.x) (k:RdR w t C i e D j f p.y) (h':RdR w s' A' n' c' B' m' d' p'.x) (k':RdR w t' C' i' e' D' j' f' p'.y) (h2:RdR w s2 A2 n2 c2 B2 m2 d2 p2.x) (k2:RdR w t2 C2 i2 e2 D2 j2 f2 p2.y) :
  Calls Tryz.prog 247 #[.agg #[.bool s,.slice A n c,.slice B m d,.bool t,.slice C i e,.slice D j f],.agg #[.bool s',.slice A' n' c',.slice B' m' d',.bool t',.slice C' i' e',.slice D' j' f'],.agg #[.bool s2,.slice A2 n2 c2,.slice B2 m2 d2,.bool t2,.slice C2 i2 e2,.slice D2 j2 f2]] w λen w'=>∃s1 A1 n1 c1 B1 m1 d1,en=.returned (.agg #[.bool s1,.slice A1 n1 c1,.slice B1 m1 d1])/\OwR 3 w.heap.size w' s1 A1 n1 c1 B1 m1 d1 (Yc p p' p2)/\Bl w w':=by
 go_enter Tryz.func247,Tryz.ntmps247
 go_wp2_with fail
 refine qe (λW=>Bl w W/\Blk W (w.heap.size) 28 #[.bool s,.slice A n c,.slice B m d,.bool t,.slice C i e,.slice D j f]/\Blk W (w.heap.size+1) 28 #[.bool s',.slice A' n' c',.slice B' m' d',.bool t',.slice C' i' e',.slice D' j' f']/\Blk W (w.heap.size+1+1) 28 #[.bool s2,.slice A2 n2 c2,.slice B2 m2 d2,.bool t2,.slice C2 i2 e2,.slice D2 j2 f2]/\Wk 3 26 (w.heap.size+1+1+1) W) ⟨slc,bts,bts,bts,bts⟩ ?_
 rintro W ⟨hbW,hx,hx',hx2,hr⟩
 go_region_held3 (λw'=>(w'.cell? ⟨w.heap.size,0,none⟩=some (.bool s)/\w'.cell? ⟨w.heap.size,1,none⟩=some (.slice A n c)/\w'.cell? ⟨w.heap.size,2,none⟩=some (.slice B m d)/\w'.cell? ⟨w.heap.size,3,none⟩=some (.bool t)/\w'.cell? ⟨w.heap.size,4,none⟩=some (.slice C i e)/\w'.cell? ⟨w.heap.size,5,none⟩=some (.slice D j f))/\(w'.cell? ⟨w.heap.size+1,0,none⟩=some (.bool s')/\w'.cell? ⟨w.heap.size+1,1,none⟩=some (.slice A' n' c')/\w'.cell? ⟨w.heap.size+1,2,none⟩=some (.slice B' m' d')/\w'.cell? ⟨w.heap.size+1,3,none⟩=some (.bool t')/\w'.cell? ⟨w.heap.size+1,4,none⟩=some (.slice C' i' e')/\w'.cell? ⟨w.heap.size+1,5,none⟩=some (.slice D' j' f'))/\(w'.cell? ⟨w.heap.size+1+1,0,none⟩=some (.bool s2)/\w'.cell? ⟨w.heap.size+1+1,1,none⟩=some (.slice A2 n2 c2)/\w'.cell? ⟨w.heap.size+1+1,2,none⟩=some (.slice B2 m2 d2)/\w'.cell? ⟨w.heap.size+1+1,3,none⟩=some (.bool t2)/\w'.cell? ⟨w.heap.size+1+1,4,none⟩=some (.slice C2 i2 e2)/\w'.cell? ⟨w.heap.size+1+1,5,none⟩=some (.slice D2 j2 f2))/\(w'.cell? ⟨w.heap.size+1+1+1,0,none⟩=some (qh w' (w.heap.size+1+1+1) 0)/\w'.cell? ⟨w.heap.size+1+1+1,1,none⟩=some (qh w' (w.heap.size+1+1+1) 1)/\w'.cell? ⟨w.heap.size+1+1+1,2,none⟩=some (qh w' (w.heap.size+1+1+1) 2))/\w'.frozen? ⟨w.heap.size+1+1+1,0,none⟩=false/\w'.frozen? ⟨w.heap.size+1+1+1,1,none⟩=false/\w'.frozen? ⟨w.heap.size+1+1+1,2,none⟩=false) (first|exact⟨bx6 (T:=28) bts,bx6 (T:=28) bts,bx6 (T:=28) bts,Wk.out3 (T:=26) bts⟩) (first |(go_at_call 252;with_reducible refine(zp _ (h'.bl slc) (k'.bl slc) (h.bl slc) (k.bl slc)).mono ?_;rintro en w2 ⟨s3,A3,n3,c3,B3,m3,d3,t3,C3,i3,e3,D3,j3,f3,rfl,hP2,hb2⟩) |(go_at_call 252;with_reducible refine(zp _ (h2.bl slc) (k2.bl slc) (h.bl slc) (k.bl slc)).mono ?_;rintro en w3 ⟨s4,A4,n4,c4,B4,m4,d4,t4,C4,i4,e4,D4,j4,f4,rfl,hP3,hb3⟩) |(go_at_call 273;refine(Uy _ (hP2.rx.bl hb3) (hP2.ry.bl hb3) hP3.rx hP3.ry).mono ?_;rintro en w4 ⟨s1,A1,n1,c1,B1,m1,d1,rfl,hR,hb4⟩))
 have hz:w.heap.size+1+1+1+1<=W.heap.size:=hr.lt
 have hz2:W.heap.size<=w2.heap.size:=(Bl.size hb2:W.drew.heap.size<=_)
 have hz3:w2.heap.size<=w3.heap.size:=Bl.size hb3
 have hr:=(show Wk 3 26 (w.heap.size+1+1+1) w4 from bts)
 have hbW:Bl w w4:=slc
 have hR:=hR.mono (show w.heap.size+1+1+1+1<=w3.heap.size by omega)
 obtain⟨v0,x0⟩:=hr.val_ (i:=0) (by omega)
 obtain⟨v1,x1⟩:=hr.val_ (i:=1) (by omega)
 obtain⟨v2,x2⟩:=hr.val_ (i:=2) (by omega)
 have hg:=hr.lt
 obtain⟨cs4,hB4,hc4⟩:=hr
 have hf0:=hB4.frozen 0
 have hf1:=hB4.frozen 1
 have hf2:=hB4.frozen 2
 go_wp2_with fail
 exact bodyPost_ret (v:=.agg #[.bool s1,.slice A1 n1 c1,.slice B1 m1 d1]) (by simp[results,Tryz.results247,go_sem,x0,x1,x2]) rfl ⟨_,_,_,_,_,_,_,rfl,(((hR.far (by simp) _).far (by simp) _).far (by simp) _).mono (by omega),slc⟩
theorem Ut {r:qH}(h:0<Zi r):OkR r:=by
 unfold Zi at h
 split at h
 ·assumption
 ·omega
theorem Xm (w:World) {g c0:Nat}{p0 p1 p2:PtD}(h:qR w (some ⟨g,0,none⟩) 3 c0 [p0,p1,p2]) (v0:Hid (OkP p0)) (v1:Hid (OkP p1)) (v2:Hid (OkP p2)) (v3:Hid (okR (Yc p0 p1 p2)=true)) (hv:Hid (Q5 [p0,p1,p2]=decide (0<Zi (Yc p0 p1 p2)))) :
  Calls Tryz.prog 211 #[.slice (some ⟨g,0,none⟩) 3 c0] w λe w'=>e=.returned (.bool (Q5 [p0,p1,p2]))/\Bl w w':=by
 obtain⟨_,e0,hg,hc0⟩:=h.cells 0 (by omega)
 cases e0
 rw[Addr.add_lit]at hc0
 obtain⟨s,A,n,c,B,m,d,t,C,i,e,D,j,f,⟨x0,x1,x2,x3,x4,x5⟩,hX0,hY0⟩:=(show YX w ⟨g,0,none⟩ p0 from hc0)
 have x0:w.cell? ⟨g,0,none⟩=some (.bool s):=x0
 have x1:w.cell? ⟨g,1,none⟩=some (.slice A n c):=x1
 have x2:w.cell? ⟨g,2,none⟩=some (.slice B m d):=x2
 have x3:w.cell? ⟨g,3,none⟩=some (.bool t):=x3
 have x4:w.cell? ⟨g,4,none⟩=some (.slice C i e):=x4
 have x5:w.cell? ⟨g,5,none⟩=some (.slice D j f):=x5
 obtain⟨_,e0,hg,hc1⟩:=h.cells 1 (by omega)
 cases e0
 rw[Addr.add_lit]at hc1
 obtain⟨s',A',n',c',B',m',d',t',C',i',e',D',j',f',⟨y0,y1,y2,y3,y4,y5⟩,hX1,hY1⟩:=(show YX w ⟨g,6,none⟩ p1 from hc1)
 have y0:w.cell? ⟨g,6,none⟩=some (.bool s'):=y0
 have y1:w.cell? ⟨g,7,none⟩=some (.slice A' n' c'):=y1
 have y2:w.cell? ⟨g,8,none⟩=some (.slice B' m' d'):=y2
 have y3:w.cell? ⟨g,9,none⟩=some (.bool t'):=y3
 have y4:w.cell? ⟨g,10,none⟩=some (.slice C' i' e'):=y4
 have y5:w.cell? ⟨g,11,none⟩=some (.slice D' j' f'):=y5
 obtain⟨_,e0,hg,hc2⟩:=h.cells 2 (by omega)
 cases e0
 rw[Addr.add_lit]at hc2
 obtain⟨s2,A2,n2,c2,B2,m2,d2,t2,C2,i2,e2,D2,j2,f2,⟨z0,z1,z2,z3,z4,z5⟩,hX2,hY2⟩:=(show YX w ⟨g,12,none⟩ p2 from hc2)
 have z0:w.cell? ⟨g,12,none⟩=some (.bool s2):=z0
 have z1:w.cell? ⟨g,13,none⟩=some (.slice A2 n2 c2):=z1
 have z2:w.cell? ⟨g,14,none⟩=some (.slice B2 m2 d2):=z2
 have z3:w.cell? ⟨g,15,none⟩=some (.bool t2):=z3
 have z4:w.cell? ⟨g,16,none⟩=some (.slice C2 i2 e2):=z4
 have z5:w.cell? ⟨g,17,none⟩=some (.slice D2 j2 f2):=z5
 clear hc0 hc1 hc2
 go_enter Tryz.func211,Tryz.ntmps211
 go_wp2_with fail
 go_region_held3 (λw'=>(w'.cell? ⟨g,0,none⟩=some (.bool s)/\w'.cell? ⟨g,1,none⟩=some (.slice A n c)/\w'.cell? ⟨g,2,none⟩=some (.slice B m d)/\w'.cell? ⟨g,3,none⟩=some (.bool t)/\w'.cell? ⟨g,4,none⟩=some (.slice C i e)/\w'.cell? ⟨g,5,none⟩=some (.slice D j f))/\(w'.cell? ⟨g,6,none⟩=some (.bool s')/\w'.cell? ⟨g,7,none⟩=some (.slice A' n' c')/\w'.cell? ⟨g,8,none⟩=some (.slice B' m' d')/\w'.cell? ⟨g,9,none⟩=some (.bool t')/\w'.cell? ⟨g,10,none⟩=some (.slice C' i' e')/\w'.cell? ⟨g,11,none⟩=some (.slice D' j' f'))/\(w'.cell? ⟨g,12,none⟩=some (.bool s2)/\w'.cell? ⟨g,13,none⟩=some (.slice A2 n2 c2)/\w'.cell? ⟨g,14,none⟩=some (.slice B2 m2 d2)/\w'.cell? ⟨g,15,none⟩=some (.bool t2)/\w'.cell? ⟨g,16,none⟩=some (.slice C2 i2 e2)/\w'.cell? ⟨g,17,none⟩=some (.slice D2 j2 f2))) (first|exact⟨⟨(Bl.qeV (w:=w) (p:=⟨g,0,none⟩) slc hg).trans x0,(Bl.qeV (w:=w) (p:=⟨g,1,none⟩) slc hg).trans x1,(Bl.qeV (w:=w) (p:=⟨g,2,none⟩) slc hg).trans x2,(Bl.qeV (w:=w) (p:=⟨g,3,none⟩) slc hg).trans x3,(Bl.qeV (w:=w) (p:=⟨g,4,none⟩) slc hg).trans x4,(Bl.qeV (w:=w) (p:=⟨g,5,none⟩) slc hg).trans x5⟩,⟨(Bl.qeV (w:=w) (p:=⟨g,6,none⟩) slc hg).trans y0,(Bl.qeV (w:=w) (p:=⟨g,7,none⟩) slc hg).trans y1,(Bl.qeV (w:=w) (p:=⟨g,8,none⟩) slc hg).trans y2,(Bl.qeV (w:=w) (p:=⟨g,9,none⟩) slc hg).trans y3,(Bl.qeV (w:=w) (p:=⟨g,10,none⟩) slc hg).trans y4,(Bl.qeV (w:=w) (p:=⟨g,11,none⟩) slc hg).trans y5⟩,⟨(Bl.qeV (w:=w) (p:=⟨g,12,none⟩) slc hg).trans z0,(Bl.qeV (w:=w) (p:=⟨g,13,none⟩) slc hg).trans z1,(Bl.qeV (w:=w) (p:=⟨g,14,none⟩) slc hg).trans z2,(Bl.qeV (w:=w) (p:=⟨g,15,none⟩) slc hg).trans z3,(Bl.qeV (w:=w) (p:=⟨g,16,none⟩) slc hg).trans z4,(Bl.qeV (w:=w) (p:=⟨g,17,none⟩) slc hg).trans z5⟩⟩) (first |(go_at_call 247;refine(zK _ (hX0.bl slc) (hY0.bl slc) (hX1.bl slc) (hY1.bl slc) (hX2.bl slc) (hY2.bl slc)).mono ?_;rintro en w2 ⟨s3,A3,n3,c3,B3,m3,d3,rfl,hR,hb2⟩;(first|have hq:Wk 3 26 _ _:=jl hb2|have hq:Wk 3 26 _ _:=yE hb2|skip);(try obtain⟨⟨q0,q1,q2⟩,q3,q4,q5⟩:=hq.out3)))
 ·skip
  go_upto_region 4 with (fail)
  refine qe (λW3=>Bl w W3/\Blk W3 (w2.heap.size) 26 #[.bool s3,.slice A3 n3 c3,.slice B3 m3 d3]/\RdR W3 s3 A3 n3 c3 B3 m3 d3 (Yc p0 p1 p2)) ⟨slc,Blk.new _ _ _,hR.rd.bl slc⟩ ?_
  clear hR hb2
  rintro W3 ⟨hb3,hN,hD⟩
  have hN4:=hN
  have x0':W3.cell? ⟨g,0,none⟩=some (.bool s):=(Bl.qeV (w:=w) (p:=⟨g,0,none⟩) hb3 hg).trans x0
  have x1':W3.cell? ⟨g,1,none⟩=some (.slice A n c):=(Bl.qeV (w:=w) (p:=⟨g,1,none⟩) hb3 hg).trans x1
  have x2':W3.cell? ⟨g,2,none⟩=some (.slice B m d):=(Bl.qeV (w:=w) (p:=⟨g,2,none⟩) hb3 hg).trans x2
  have x3':W3.cell? ⟨g,3,none⟩=some (.bool t):=(Bl.qeV (w:=w) (p:=⟨g,3,none⟩) hb3 hg).trans x3
  have x4':W3.cell? ⟨g,4,none⟩=some (.slice C i e):=(Bl.qeV (w:=w) (p:=⟨g,4,none⟩) hb3 hg).trans x4
  have x5':W3.cell? ⟨g,5,none⟩=some (.slice D j f):=(Bl.qeV (w:=w) (p:=⟨g,5,none⟩) hb3 hg).trans x5
  go_wp2_with fail
  refine(qN _ (hX0.bl hb3) (hY0.bl hb3) v0.out).mono ?_
  rintro e w4 ⟨rfl,hb4⟩
  have hN4:=hN4.bl hb4
  have hR40:=hD.bl hb4
  have hbb4:=Bl.next hb3 hb4
  have y0':w4.cell? ⟨g,6,none⟩=some (.bool s'):=(Bl.qeV (w:=w) (p:=⟨g,6,none⟩) hbb4 hg).trans y0
  have y1':w4.cell? ⟨g,7,none⟩=some (.slice A' n' c'):=(Bl.qeV (w:=w) (p:=⟨g,7,none⟩) hbb4 hg).trans y1
  have y2':w4.cell? ⟨g,8,none⟩=some (.slice B' m' d'):=(Bl.qeV (w:=w) (p:=⟨g,8,none⟩) hbb4 hg).trans y2
  have y3':w4.cell? ⟨g,9,none⟩=some (.bool t'):=(Bl.qeV (w:=w) (p:=⟨g,9,none⟩) hbb4 hg).trans y3
  have y4':w4.cell? ⟨g,10,none⟩=some (.slice C' i' e'):=(Bl.qeV (w:=w) (p:=⟨g,10,none⟩) hbb4 hg).trans y4
  have y5':w4.cell? ⟨g,11,none⟩=some (.slice D' j' f'):=(Bl.qeV (w:=w) (p:=⟨g,11,none⟩) hbb4 hg).trans y5
  go_wp2_with fail
  refine(qN _ (hX1.bl hbb4) (hY1.bl hbb4) v1.out).mono ?_
  rintro e w5 ⟨rfl,hb5⟩
  have hN4:=hN4.bl hb5
  have hR41:=hR40.bl hb5
  have hbb5:=Bl.next hbb4 hb5
  have z0':w5.cell? ⟨g,12,none⟩=some (.bool s2):=(Bl.qeV (w:=w) (p:=⟨g,12,none⟩) hbb5 hg).trans z0
  have z1':w5.cell? ⟨g,13,none⟩=some (.slice A2 n2 c2):=(Bl.qeV (w:=w) (p:=⟨g,13,none⟩) hbb5 hg).trans z1
  have z2':w5.cell? ⟨g,14,none⟩=some (.slice B2 m2 d2):=(Bl.qeV (w:=w) (p:=⟨g,14,none⟩) hbb5 hg).trans z2
  have z3':w5.cell? ⟨g,15,none⟩=some (.bool t2):=(Bl.qeV (w:=w) (p:=⟨g,15,none⟩) hbb5 hg).trans z3
  have z4':w5.cell? ⟨g,16,none⟩=some (.slice C2 i2 e2):=(Bl.qeV (w:=w) (p:=⟨g,16,none⟩) hbb5 hg).trans z4
  have z5':w5.cell? ⟨g,17,none⟩=some (.slice D2 j2 f2):=(Bl.qeV (w:=w) (p:=⟨g,17,none⟩) hbb5 hg).trans z5
  go_wp2_with fail
  refine(qN _ (hX2.bl hbb5) (hY2.bl hbb5) v2.out).mono ?_
  rintro e w6 ⟨rfl,hb6⟩
  have hN4:=hN4.bl hb6
  have hR42:=hR41.bl hb6
  have hbb6:=Bl.next hbb5 hb6
  obtain⟨d0,d1,d2⟩:=bx3 hN4
  go_wp2_with fail
  refine(qw _ hR42).mono ?_
  rw[v3.out]
  rintro e w7 ⟨rfl,hb7⟩
  have hN4:=hN4.bl hb7
  have hR5:=hR42.bl hb7
  have hbb7:=Bl.next hbb6 hb7
  obtain⟨d0',d1',d2'⟩:=bx3 hN4
  go_wp2_with fail
  refine(zI _ hR5).mono ?_
  rintro e w8 ⟨rfl,hb8⟩
  have hbb8:=Bl.next hbb7 hb8
  go_wp2_with fail
  go_ret
  exact⟨qq hv.out.symm,hbb8⟩
 ·skip
  go_upto_region 4 with (fail)
  refine qe (λW3=>Bl w W3/\Blk W3 (w.heap.size) 26 #[.bool s3,.slice A3 n3 c3,.slice B3 m3 d3]/\RdR W3 s3 A3 n3 c3 B3 m3 d3 (Yc p0 p1 p2)) ⟨slc,Wk.put3 hq _ _ _,(((hR.far (by simp) _).far (by simp) _).far (by simp) _).rd⟩ ?_
  clear hR hb2
  rintro W3 ⟨hb3,hN,hD⟩
  have hN4:=hN
  have x0':W3.cell? ⟨g,0,none⟩=some (.bool s):=(Bl.qeV (w:=w) (p:=⟨g,0,none⟩) hb3 hg).trans x0
  have x1':W3.cell? ⟨g,1,none⟩=some (.slice A n c):=(Bl.qeV (w:=w) (p:=⟨g,1,none⟩) hb3 hg).trans x1
  have x2':W3.cell? ⟨g,2,none⟩=some (.slice B m d):=(Bl.qeV (w:=w) (p:=⟨g,2,none⟩) hb3 hg).trans x2
  have x3':W3.cell? ⟨g,3,none⟩=some (.bool t):=(Bl.qeV (w:=w) (p:=⟨g,3,none⟩) hb3 hg).trans x3
  have x4':W3.cell? ⟨g,4,none⟩=some (.slice C i e):=(Bl.qeV (w:=w) (p:=⟨g,4,none⟩) hb3 hg).trans x4
  have x5':W3.cell? ⟨g,5,none⟩=some (.slice D j f):=(Bl.qeV (w:=w) (p:=⟨g,5,none⟩) hb3 hg).trans x5
  go_wp2_with fail
  refine(qN _ (hX0.bl hb3) (hY0.bl hb3) v0.out).mono ?_
  rintro e w4 ⟨rfl,hb4⟩
  have hN4:=hN4.bl hb4
  have hR40:=hD.bl hb4
  have hbb4:=Bl.next hb3 hb4
  have y0':w4.cell? ⟨g,6,none⟩=some (.bool s'):=(Bl.qeV (w:=w) (p:=⟨g,6,none⟩) hbb4 hg).trans y0
  have y1':w4.cell? ⟨g,7,none⟩=some (.slice A' n' c'):=(Bl.qeV (w:=w) (p:=⟨g,7,none⟩) hbb4 hg).trans y1
  have y2':w4.cell? ⟨g,8,none⟩=some (.slice B' m' d'):=(Bl.qeV (w:=w) (p:=⟨g,8,none⟩) hbb4 hg).trans y2
  have y3':w4.cell? ⟨g,9,none⟩=some (.bool t'):=(Bl.qeV (w:=w) (p:=⟨g,9,none⟩) hbb4 hg).trans y3
  have y4':w4.cell? ⟨g,10,none⟩=some (.slice C' i' e'):=(Bl.qeV (w:=w) (p:=⟨g,10,none⟩) hbb4 hg).trans y4
  have y5':w4.cell? ⟨g,11,none⟩=some (.slice D' j' f'):=(Bl.qeV (w:=w) (p:=⟨g,11,none⟩) hbb4 hg).trans y5
  go_wp2_with fail
  refine(qN _ (hX1.bl hbb4) (hY1.bl hbb4) v1.out).mono ?_
  rintro e w5 ⟨rfl,hb5⟩
  have hN4:=hN4.bl hb5
  have hR41:=hR40.bl hb5
  have hbb5:=Bl.next hbb4 hb5
  have z0':w5.cell? ⟨g,12,none⟩=some (.bool s2):=(Bl.qeV (w:=w) (p:=⟨g,12,none⟩) hbb5 hg).trans z0
  have z1':w5.cell? ⟨g,13,none⟩=some (.slice A2 n2 c2):=(Bl.qeV (w:=w) (p:=⟨g,13,none⟩) hbb5 hg).trans z1
  have z2':w5.cell? ⟨g,14,none⟩=some (.slice B2 m2 d2):=(Bl.qeV (w:=w) (p:=⟨g,14,none⟩) hbb5 hg).trans z2
  have z3':w5.cell? ⟨g,15,none⟩=some (.bool t2):=(Bl.qeV (w:=w) (p:=⟨g,15,none⟩) hbb5 hg).trans z3
  have z4':w5.cell? ⟨g,16,none⟩=some (.slice C2 i2 e2):=(Bl.qeV (w:=w) (p:=⟨g,16,none⟩) hbb5 hg).trans z4
  have z5':w5.cell? ⟨g,17,none⟩=some (.slice D2 j2 f2):=(Bl.qeV (w:=w) (p:=⟨g,17,none⟩) hbb5 hg).trans z5
  go_wp2_with fail
  refine(qN _ (hX2.bl hbb5) (hY2.bl hbb5) v2.out).mono ?_
  rintro e w6 ⟨rfl,hb6⟩
  have hN4:=hN4.bl hb6
  have hR42:=hR41.bl hb6
  have hbb6:=Bl.next hbb5 hb6
  obtain⟨d0,d1,d2⟩:=bx3 hN4
  go_wp2_with fail
  refine(qw _ hR42).mono ?_
  rw[v3.out]
  rintro e w7 ⟨rfl,hb7⟩
  have hN4:=hN4.bl hb7
  have hR5:=hR42.bl hb7
  have hbb7:=Bl.next hbb6 hb7
  obtain⟨d0',d1',d2'⟩:=bx3 hN4
  go_wp2_with fail
  refine(zI _ hR5).mono ?_
  rintro e w8 ⟨rfl,hb8⟩
  have hbb8:=Bl.next hbb7 hb8
  go_wp2_with fail
  go_ret
  exact⟨qq hv.out.symm,hbb8⟩
theorem X6 {p0 p1 p2:PtD}(h:KK [p0,p1,p2]):OkP p0/\OkP p1/\OkP p2/\0<Zi (Yc p0 p1 p2):=by
 obtain⟨hall,a,b,c,e,hs⟩:=h
 injection e with e1 e
 injection e with e2 e
 injection e with e3 e
 subst e1 e2 e3
 exact⟨hall 0 (by simp),hall 1 (by simp),hall 2 (by simp),hs⟩
theorem xS (w:World) {s:Bool}{A:Option Addr}{n c:Nat}{x:Int}{t:Bool}{B:Option Addr}{m d:Nat}{y:Int}(h:IsB w s A n c x) (k:IsB w t B m d y) (hn:n<=60) (hm:m<=60) :
  Calls Tryz.prog 144 #[.agg #[.bool s,.slice A n c],.agg #[.bool t,.slice B m d]] w λe w'=>∃s1 A1 n1 c1 B1 m1 d1,e=.returned (.agg #[.bool s1,.slice A1 n1 c1,.slice B1 m1 d1])/\OwR 3 w.heap.size w' s1 A1 n1 c1 B1 m1 d1 (VR (s != t) x.natAbs y.natAbs)/\Bl w w':=by
 have hB:=uI h hn
 have hB':=uI k hm
 go_enter Tryz.func144,Tryz.ntmps144
 go_wp2_with fail
 refine qd (λW=>Bl w W/\Blk W (w.heap.size) 24 #[.bool s,.slice A n c]/\Blk W (w.heap.size+1) 24 #[.bool t,.slice B m d]/\Wk 3 26 (w.heap.size+1+1) W) ⟨slc,bts,bts,bts⟩ ?_
 rintro W ⟨hbW,hx,hx',hr⟩
 refine(zg _ (RdI.bl h.mg hbW)).mono ?_
 rw[hB]
 rintro e w1 ⟨rfl,hb1⟩
 have hx:=hx.bl hb1
 have hx':=hx'.bl hb1
 have hr:=hr.bl hb1
 have hbW:=hbW.next hb1
 clear hb1
 obtain⟨i0,i1⟩:=bx2 hx
 obtain⟨j0,j1⟩:=bx2 hx'
 go_wp2_with fail
 refine(zg _ (RdI.bl k.mg hbW)).mono ?_
 rw[hB']
 rintro e w2 ⟨rfl,hb2⟩
 have hx:=hx.bl hb2
 have hx':=hx'.bl hb2
 have hr:=hr.bl hb2
 have hbW:=hbW.next hb2
 clear hb2
 obtain⟨i0,i1⟩:=bx2 hx
 obtain⟨j0,j1⟩:=bx2 hx'
 have hz2:w.heap.size+1+1+1<=w2.heap.size:=hr.lt
 go_wp2_with fail
 refine(QP _ (s != t) (h.mg.bl hbW) (k.mg.bl hbW) (by omega) (by omega)).mono ?_
 rintro e w6 ⟨s1,A1,n1,c1,B1,m1,d1,rfl,hR,hb6⟩
 have hbW:=hbW.next hb6
 have hr:=hr.bl hb6
 have hR:=hR.mono (show w.heap.size+1+1+1<=w2.heap.size from hz2)
 obtain⟨v0,x0⟩:=hr.val_ (i:=0) (by omega)
 obtain⟨v1,x1⟩:=hr.val_ (i:=1) (by omega)
 obtain⟨v2,x2⟩:=hr.val_ (i:=2) (by omega)
 have hg:=hr.lt
 obtain⟨cs4,hB4,hc4⟩:=hr
 have hf0:=hB4.frozen 0
 have hf1:=hB4.frozen 1
 have hf2:=hB4.frozen 2
 go_wp2_with fail
 exact bodyPost_ret (v:=.agg #[.bool s1,.slice A1 n1 c1,.slice B1 m1 d1]) (by simp[results,Tryz.results144,go_sem,x0,x1,x2]) rfl ⟨_,_,_,_,_,_,_,rfl,(((hR.far (by simp) _).far (by simp) _).far (by simp) _).mono (by omega),slc⟩
theorem Uv (w:World) (x y:Int) (h1 : -9223372036854775808<x) (h2:x<=9223372036854775807) (g1:0<y) (g2:y<=9223372036854775807) :
  Calls Tryz.prog 94 #[.int .i64 x,.int .i64 y] w λe w'=>∃s1 A1 n1 c1 B1 m1 d1,e=.returned (.agg #[.bool s1,.slice A1 n1 c1,.slice B1 m1 d1])/\OwR 3 w.heap.size w' s1 A1 n1 c1 B1 m1 d1 (qm x y.natAbs)/\Bl w w':=by
 have hv:=Lib.hid (show VR (decide (x<0) != decide (y<0)) x.natAbs y.natAbs=qm x y.natAbs by
  rw[decide_eq_false (show ¬y<0 by omega),Bool.bne_false]
  exact ZR (by omega) rfl)
 have hlx:=Jd (x:=x) (by omega) h2
 have hly:=Jd (x:=y) (by omega) g2
 go_enter Tryz.func94,Tryz.ntmps94
 go_wp2_with fail
 refine qd (λW=>Bl w W/\Wk 3 26 (w.heap.size) W) ⟨slc,bts⟩ ?_
 rintro W ⟨hbW,hr⟩
 refine(yY _ x h1 h2).mono ?_
 rintro e w1 ⟨s1,A1,n1,c1,rfl,hO1,hb1⟩
 have hl1:n1<=3:=by rw[<-hO1.len];exact hlx
 go_wp2_with fail
 refine(yY _ y (by omega) g2).mono ?_
 rintro e w2 ⟨s2,A2,n2,c2,rfl,hO2,hb2⟩
 have hl2:n2<=3:=by rw[<-hO2.len];exact hly
 have hB1:=hO1.rd.bl hb2
 have q1:=Lib.hid hB1.1
 have q2:=Lib.hid hO2.1
 go_wp2_with fail
 refine(xS _ hB1 hO2.rd (by omega) (by omega)).mono ?_
 rintro e w3 ⟨s3,A3,n3,c3,B3,m3,d3,rfl,hR,hb3⟩
 rw[q1.out,q2.out,hv.out]at hR
 have hr2:=(hr.bl hb1).bl hb2
 have hR:=hR.mono (show w.heap.size+1<=w2.heap.size from hr2.lt)
 have hr:=hr2.bl hb3
 have hbW:=((hbW.next hb1).next hb2).next hb3
 obtain⟨v0,x0⟩:=hr.val_ (i:=0) (by omega)
 obtain⟨v1,x1⟩:=hr.val_ (i:=1) (by omega)
 obtain⟨v2,x2⟩:=hr.val_ (i:=2) (by omega)
 have hg:=hr.lt
 obtain⟨cs4,hB4,hc4⟩:=hr
 have hf0:=hB4.frozen 0
 have hf1:=hB4.frozen 1
 have hf2:=hB4.frozen 2
 go_wp2_with fail
 exact bodyPost_ret (v:=.agg #[.bool s3,.slice A3 n3 c3,.slice B3 m3 d3]) (by simp[results,Tryz.results94,go_sem,x0,x1,x2]) rfl ⟨_,_,_,_,_,_,_,rfl,(((hR.far (by simp) _).far (by simp) _).far (by simp) _).mono (by omega),slc⟩
noncomputable def KJ (a b c:PtD):qH:=Zs (qm 1 2) (Yc a b c)
theorem Yr {l:List PtD}(h:Q5 l=true):KK l:=by
 unfold Q5 at h
 simpa using h
theorem qar (w:World) {g c0:Nat}{p0 p1 p2:PtD}(h:qR w (some ⟨g,0,none⟩) 3 c0 [p0,p1,p2]) :
  Calls Tryz.prog 74 #[.slice (some ⟨g,0,none⟩) 3 c0] w λe w'=>∃s1 A1 n1 c1 B1 m1 d1,e=.returned (.agg #[.bool s1,.slice A1 n1 c1,.slice B1 m1 d1])/\OwR 3 w.heap.size w' s1 A1 n1 c1 B1 m1 d1 (KJ p0 p1 p2)/\Bl w w':=by
 obtain⟨_,e0,hg,hc0⟩:=h.cells 0 (by omega)
 cases e0
 rw[Addr.add_lit]at hc0
 obtain⟨s,A,n,c,B,m,d,t,C,i,e,D,j,f,⟨x0,x1,x2,x3,x4,x5⟩,hX0,hY0⟩:=(show YX w ⟨g,0,none⟩ p0 from hc0)
 have x0:w.cell? ⟨g,0,none⟩=some (.bool s):=x0
 have x1:w.cell? ⟨g,1,none⟩=some (.slice A n c):=x1
 have x2:w.cell? ⟨g,2,none⟩=some (.slice B m d):=x2
 have x3:w.cell? ⟨g,3,none⟩=some (.bool t):=x3
 have x4:w.cell? ⟨g,4,none⟩=some (.slice C i e):=x4
 have x5:w.cell? ⟨g,5,none⟩=some (.slice D j f):=x5
 obtain⟨_,e0,hg,hc1⟩:=h.cells 1 (by omega)
 cases e0
 rw[Addr.add_lit]at hc1
 obtain⟨s',A',n',c',B',m',d',t',C',i',e',D',j',f',⟨y0,y1,y2,y3,y4,y5⟩,hX1,hY1⟩:=(show YX w ⟨g,6,none⟩ p1 from hc1)
 have y0:w.cell? ⟨g,6,none⟩=some (.bool s'):=y0
 have y1:w.cell? ⟨g,7,none⟩=some (.slice A' n' c'):=y1
 have y2:w.cell? ⟨g,8,none⟩=some (.slice B' m' d'):=y2
 have y3:w.cell? ⟨g,9,none⟩=some (.bool t'):=y3
 have y4:w.cell? ⟨g,10,none⟩=some (.slice C' i' e'):=y4
 have y5:w.cell? ⟨g,11,none⟩=some (.slice D' j' f'):=y5
 obtain⟨_,e0,hg,hc2⟩:=h.cells 2 (by omega)
 cases e0
 rw[Addr.add_lit]at hc2
 obtain⟨s2,A2,n2,c2,B2,m2,d2,t2,C2,i2,e2,D2,j2,f2,⟨z0,z1,z2,z3,z4,z5⟩,hX2,hY2⟩:=(show YX w ⟨g,12,none⟩ p2 from hc2)
 have z0:w.cell? ⟨g,12,none⟩=some (.bool s2):=z0
 have z1:w.cell? ⟨g,13,none⟩=some (.slice A2 n2 c2):=z1
 have z2:w.cell? ⟨g,14,none⟩=some (.slice B2 m2 d2):=z2
 have z3:w.cell? ⟨g,15,none⟩=some (.bool t2):=z3
 have z4:w.cell? ⟨g,16,none⟩=some (.slice C2 i2 e2):=z4
 have z5:w.cell? ⟨g,17,none⟩=some (.slice D2 j2 f2):=z5
 clear hc0 hc1 hc2
 go_enter Tryz.func74,Tryz.ntmps74
 go_wp2_with fail
 refine qe (λW=>Bl w W/\Wk 3 26 (w.heap.size) W) ⟨slc,bts⟩ ?_
 rintro W ⟨hbW,hr⟩
 go_region_held3 (λw'=>(w'.cell? ⟨g,0,none⟩=some (.bool s)/\w'.cell? ⟨g,1,none⟩=some (.slice A n c)/\w'.cell? ⟨g,2,none⟩=some (.slice B m d)/\w'.cell? ⟨g,3,none⟩=some (.bool t)/\w'.cell? ⟨g,4,none⟩=some (.slice C i e)/\w'.cell? ⟨g,5,none⟩=some (.slice D j f))/\(w'.cell? ⟨g,6,none⟩=some (.bool s')/\w'.cell? ⟨g,7,none⟩=some (.slice A' n' c')/\w'.cell? ⟨g,8,none⟩=some (.slice B' m' d')/\w'.cell? ⟨g,9,none⟩=some (.bool t')/\w'.cell? ⟨g,10,none⟩=some (.slice C' i' e')/\w'.cell? ⟨g,11,none⟩=some (.slice D' j' f'))/\(w'.cell? ⟨g,12,none⟩=some (.bool s2)/\w'.cell? ⟨g,13,none⟩=some (.slice A2 n2 c2)/\w'.cell? ⟨g,14,none⟩=some (.slice B2 m2 d2)/\w'.cell? ⟨g,15,none⟩=some (.bool t2)/\w'.cell? ⟨g,16,none⟩=some (.slice C2 i2 e2)/\w'.cell? ⟨g,17,none⟩=some (.slice D2 j2 f2))/\(w'.cell? ⟨w.heap.size,0,none⟩=some (qh w' (w.heap.size) 0)/\w'.cell? ⟨w.heap.size,1,none⟩=some (qh w' (w.heap.size) 1)/\w'.cell? ⟨w.heap.size,2,none⟩=some (qh w' (w.heap.size) 2))/\w'.frozen? ⟨w.heap.size,0,none⟩=false/\w'.frozen? ⟨w.heap.size,1,none⟩=false/\w'.frozen? ⟨w.heap.size,2,none⟩=false) (first|exact⟨⟨(Bl.qeV (w:=w) (p:=⟨g,0,none⟩) slc hg).trans x0,(Bl.qeV (w:=w) (p:=⟨g,1,none⟩) slc hg).trans x1,(Bl.qeV (w:=w) (p:=⟨g,2,none⟩) slc hg).trans x2,(Bl.qeV (w:=w) (p:=⟨g,3,none⟩) slc hg).trans x3,(Bl.qeV (w:=w) (p:=⟨g,4,none⟩) slc hg).trans x4,(Bl.qeV (w:=w) (p:=⟨g,5,none⟩) slc hg).trans x5⟩,⟨(Bl.qeV (w:=w) (p:=⟨g,6,none⟩) slc hg).trans y0,(Bl.qeV (w:=w) (p:=⟨g,7,none⟩) slc hg).trans y1,(Bl.qeV (w:=w) (p:=⟨g,8,none⟩) slc hg).trans y2,(Bl.qeV (w:=w) (p:=⟨g,9,none⟩) slc hg).trans y3,(Bl.qeV (w:=w) (p:=⟨g,10,none⟩) slc hg).trans y4,(Bl.qeV (w:=w) (p:=⟨g,11,none⟩) slc hg).trans y5⟩,⟨(Bl.qeV (w:=w) (p:=⟨g,12,none⟩) slc hg).trans z0,(Bl.qeV (w:=w) (p:=⟨g,13,none⟩) slc hg).trans z1,(Bl.qeV (w:=w) (p:=⟨g,14,none⟩) slc hg).trans z2,(Bl.qeV (w:=w) (p:=⟨g,15,none⟩) slc hg).trans z3,(Bl.qeV (w:=w) (p:=⟨g,16,none⟩) slc hg).trans z4,(Bl.qeV (w:=w) (p:=⟨g,17,none⟩) slc hg).trans z5⟩,Wk.out3 (T:=26) bts⟩) (first |(go_at_call 46;refine(xk _ 1 2 (by omega) (by omega) (by omega) (by omega)).mono ?_;rintro e w2 ⟨s6,A6,n6,c6,B6,m6,d6,rfl,hR2,hb2⟩) |(go_at_call 13;refine(vh _ (hX0.bl slc) (hY0.bl slc) (hX1.bl slc) (hY1.bl slc) (hX2.bl slc) (hY2.bl slc)).mono ?_;rintro en w3 ⟨s3,A3,n3,c3,B3,m3,d3,rfl,hR3,hb3⟩) |(go_at_call 55;refine(Jf _ (hR2.rd.bl hb3) hR3.rd).mono ?_;rintro en w4 ⟨s1,A1,n1,c1,B1,m1,d1,rfl,hR,hb4⟩))
 have hz:w.heap.size+1<=W.heap.size:=hr.lt
 have hz2:W.heap.size<=w2.heap.size:=(Bl.size hb2:W.drew.heap.size<=_)
 have hz3:w2.heap.size<=w3.heap.size:=Bl.size hb3
 have hr:=(show Wk 3 26 (w.heap.size) w4 from bts)
 have hbW:Bl w w4:=slc
 have hR:OwR 3 (w.heap.size+1) w4 s1 A1 n1 c1 B1 m1 d1 (KJ p0 p1 p2):=hR.mono (show w.heap.size+1<=w3.heap.size by omega)
 obtain⟨v0,x0⟩:=hr.val_ (i:=0) (by omega)
 obtain⟨v1,x1⟩:=hr.val_ (i:=1) (by omega)
 obtain⟨v2,x2⟩:=hr.val_ (i:=2) (by omega)
 have hg:=hr.lt
 obtain⟨cs4,hB4,hc4⟩:=hr
 have hf0:=hB4.frozen 0
 have hf1:=hB4.frozen 1
 have hf2:=hB4.frozen 2
 go_wp2_with fail
 exact bodyPost_ret (v:=.agg #[.bool s1,.slice A1 n1 c1,.slice B1 m1 d1]) (by simp[results,Tryz.results74,go_sem,x0,x1,x2]) rfl ⟨_,_,_,_,_,_,_,rfl,(((hR.far (by simp) _).far (by simp) _).far (by simp) _).mono (by omega),slc⟩
end Go.Proofs.YtjaapemopbbfaaaGreatDoor
