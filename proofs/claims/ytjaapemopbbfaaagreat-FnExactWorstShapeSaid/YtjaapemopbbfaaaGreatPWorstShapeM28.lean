/- Lemmas. -/
import Derived.Test.YtjaapemopbbfaaaGreatRows
import Derived.Test.YtjaapemopbbfaaaGreatPWorstShapeM25
import Derived.Test.YtjaapemopbbfaaaGreatPWorstShapeM21
namespace Go.Proofs.YtjaapemopbbfaaaGreat
section
open Go.RowKit

theorem subR_ok (r s:RatD):subR r s=zR∨OkR (subR r s):=by
  unfold subR
  split
  · rename_i h
    exact ofFrac_ok (Nat.mul_pos h.1.get.2.1 h.2.get.2.1)
  · exact .inl rfl
theorem okR_den {r:RatD}(h:r=zR∨OkR r):(¬ r.den.length=0)↔OkR r:=by
  rcases h with h | h
  · subst h
    exact⟨fun h=> absurd rfl h,fun h=> absurd h not_ok_zR⟩
  · refine⟨fun _=> h,fun _=> ?_⟩
    have g:=h.get
    rw[g.1]
    unfold raw
    simp only
    rw[ints_len]
    have:=dig_len_pos.2 g.2.1
    omega
theorem sIsValidPoint_yes (w:World) {s:Bool}{A:Option Addr}{n c:Nat}{B:Option Addr}{m d:Nat}{t:Bool}{C:Option Addr}{i e:Nat}{D:Option Addr}{j f:Nat}{p:PtD}(h:RdR w s A n c B m d p.x) (k:RdR w t C i e D j f p.y) (ho:OkP p) :
    Calls Tryz.prog 77 #[.agg #[.bool s,.slice A n c,.slice B m d,.bool t,.slice C i e,.slice D j f]] w fun en w'=> en=.returned (.bool true)∧Bl w w':=by
  have h1:=okR_of ho.1
  have h2:=okR_of ho.2
  clear ho
  go_enter Tryz.func77,Tryz.ntmps77
  go_wp2_with fail
  refine(sRatOk_any _ (h.bl slc)).mono ?_
  rw[h1]
  rintro e w1 ⟨rfl,hb1⟩
  obtain⟨i0,i1,i2,i3,i4,i5⟩:=box6 hb1
  have hb1:Bl w w1:=slc
  go_wp2_with fail
  refine(sRatOk_any _ (k.bl hb1)).mono ?_
  rw[h2]
  rintro e w2 ⟨rfl,hb2⟩
  go_wp2_with fail
  go_ret
  exact⟨rfl,slc⟩

theorem sIsValidPoint_no (w:World) {s:Bool}{A:Option Addr}{n c:Nat}{B:Option Addr}{m d:Nat}{t:Bool}{C:Option Addr}{i e:Nat}{D:Option Addr}{j f:Nat}{p:PtD}(h:RdR w s A n c B m d p.x) (k:RdR w t C i e D j f p.y) (ho:¬ OkP p) :
    Calls Tryz.prog 77 #[.agg #[.bool s,.slice A n c,.slice B m d,.bool t,.slice C i e,.slice D j f]] w fun en w'=> en=.returned (.bool false)∧Bl w w':=by
  by_cases g1:OkR p.x
  · have h1:=okR_of g1
    have h2:=okR_no (fun g2=> ho ⟨g1,g2⟩)
    clear ho g1
    go_enter Tryz.func77,Tryz.ntmps77
    go_wp2_with fail
    refine(sRatOk_any _ (h.bl slc)).mono ?_
    rw[h1]
    rintro e w1 ⟨rfl,hb1⟩
    obtain⟨i0,i1,i2,i3,i4,i5⟩:=box6 hb1
    have hb1:Bl w w1:=slc
    go_wp2_with fail
    refine(sRatOk_any _ (k.bl hb1)).mono ?_
    rw[h2]
    rintro e w2 ⟨rfl,hb2⟩
    go_wp2_with fail
    go_ret
    exact⟨rfl,slc⟩
  · have h1:=okR_no g1
    clear ho
    have g1:=Lib.hid g1;rename_i h_;clear h_
    go_enter Tryz.func77,Tryz.ntmps77
    go_wp2_with fail
    refine(sRatOk_any _ (h.bl slc)).mono ?_
    rw[h1]
    rintro e w1 ⟨rfl,hb1⟩
    obtain⟨i0,i1,i2,i3,i4,i5⟩:=box6 hb1
    have hb1:Bl w w1:=slc
    go_wp2_with fail
    go_ret
    exact⟨rfl,slc⟩


set_option maxRecDepth 100000 in
set_option maxHeartbeats 4000000 in
theorem l05Valid_any (w:World) {b0:Nat}{s:Bool}{A:Option Addr}{n c:Nat}{B:Option Addr}{m d:Nat}{t:Bool}{C:Option Addr}{i e:Nat}{D:Option Addr}{j f:Nat}{p:PtD}(h:OwP 3 b0 w s A n c B m d t C i e D j f p) (_hb0:b0≤w.heap.size) (hpx:p.x=zR∨OkR p.x) (hpy:p.y=zR∨OkR p.y) :
    Calls Tryz.prog 83 #[.agg #[.bool s,.slice A n c,.slice B m d,.bool t,.slice C i e,.slice D j f]] w fun en w'=> ∃ s1 A1 n1 c1 B1 m1 d1 t1 C1 i1 e1 D1 j1 f1,en=.returned (.agg #[.bool s1,.slice A1 n1 c1,.slice B1 m1 d1,.bool t1,.slice C1 i1 e1,.slice D1 j1 f1])∧OwP 3 b0 w' s1 A1 n1 c1 B1 m1 d1 t1 C1 i1 e1 D1 j1 f1 (ifP p)∧Bl w w':=by
  have e1:=okR_den hpx
  have e2:=okR_den hpy
  clear hpx hpy
  by_cases ho:OkP p
  · have hv:=Lib.hid (show ifP p=p by
      unfold ifP
      rw[if_neg (fun hk=> by
        rcases hk with hk | hk
        · exact e1.2 ho.1 hk
        · exact e2.2 ho.2 hk)])
    clear e1 e2
    have ho:=Lib.hid ho;rename_i h_;clear h_
    go_enter Tryz.func83,Tryz.ntmps83
    go_wp2_with fail
    refine calls_gen (fun W=> Bl w W∧Blk W (w.heap.size) 76 #[.bool s,.slice A n c,.slice B m d,.bool t,.slice C i e,.slice D j f]∧Wk 6 76 (w.heap.size+1) W) ⟨slc,bts,bts⟩ ?_
    rintro W ⟨hbW,hx,hr⟩
    refine(sIsValidPoint_yes _ (h.rx.bl hbW) (h.ry.bl hbW) ho.out).mono ?_
    rintro e w1 ⟨rfl,hb1⟩
    have hx:=hx.bl hb1
    have hr:=hr.bl hb1
    have hbW:=hbW.next hb1
    clear hb1
    obtain⟨i0,i1,i2,i3,i4,i5⟩:=bx6 hx
    obtain⟨v0,x0⟩:=hr.val_ (i:=0) (by omega)
    obtain⟨v1,x1⟩:=hr.val_ (i:=1) (by omega)
    obtain⟨v2,x2⟩:=hr.val_ (i:=2) (by omega)
    obtain⟨v3,x3⟩:=hr.val_ (i:=3) (by omega)
    obtain⟨v4,x4⟩:=hr.val_ (i:=4) (by omega)
    obtain⟨v5,x5⟩:=hr.val_ (i:=5) (by omega)
    have hg:=hr.lt
    obtain⟨cs4,hB4,hc4⟩:=hr
    have hf0:=hB4.frozen 0
    have hf1:=hB4.frozen 1
    have hf2:=hB4.frozen 2
    have hf3:=hB4.frozen 3
    have hf4:=hB4.frozen 4
    have hf5:=hB4.frozen 5
    go_wp2_with fail
    exact bodyPost_ret (v:=.agg #[.bool s,.slice A n c,.slice B m d,.bool t,.slice C i e,.slice D j f]) (by simp[results,Tryz.results83,go_sem,x0,x1,x2,x3,x4,x5]) rfl ⟨_,_,_,_,_,_,_,_,_,_,_,_,_,_,rfl,by rw[hv.out];exact h.bl slc,slc⟩
  · have hv:=Lib.hid (show ifP p=zP by
      unfold ifP
      by_cases hk:p.x.den.length=0∨p.y.den.length=0
      · rw[if_pos hk]
      · exact absurd ⟨e1.1 (fun h=> hk (.inl h)),e2.1 (fun h=> hk (.inr h))⟩ ho)
    clear e1 e2
    have ho:=Lib.hid ho;rename_i h_;clear h_
    go_enter Tryz.func83,Tryz.ntmps83
    go_wp2_with fail
    refine calls_gen (fun W=> Bl w W∧Blk W (w.heap.size) 76 #[.bool s,.slice A n c,.slice B m d,.bool t,.slice C i e,.slice D j f]∧Wk 6 76 (w.heap.size+1) W) ⟨slc,bts,bts⟩ ?_
    rintro W ⟨hbW,hx,hr⟩
    refine(sIsValidPoint_no _ (h.rx.bl hbW) (h.ry.bl hbW) ho.out).mono ?_
    rintro e w1 ⟨rfl,hb1⟩
    have hx:=hx.bl hb1
    have hr:=hr.bl hb1
    have hbW:=hbW.next hb1
    clear hb1
    obtain⟨i0,i1,i2,i3,i4,i5⟩:=bx6 hx
    obtain⟨v0,x0⟩:=hr.val_ (i:=0) (by omega)
    obtain⟨v1,x1⟩:=hr.val_ (i:=1) (by omega)
    obtain⟨v2,x2⟩:=hr.val_ (i:=2) (by omega)
    obtain⟨v3,x3⟩:=hr.val_ (i:=3) (by omega)
    obtain⟨v4,x4⟩:=hr.val_ (i:=4) (by omega)
    obtain⟨v5,x5⟩:=hr.val_ (i:=5) (by omega)
    have hg:=hr.lt
    obtain⟨cs4,hB4,hc4⟩:=hr
    have hf0:=hB4.frozen 0
    have hf1:=hB4.frozen 1
    have hf2:=hB4.frozen 2
    have hf3:=hB4.frozen 3
    have hf4:=hB4.frozen 4
    have hf5:=hB4.frozen 5
    go_wp2_with fail
    exact bodyPost_ret (v:=.agg #[.bool false,.slice none 0 0,.slice none 0 0,.bool false,.slice none 0 0,.slice none 0 0]) (by simp[results,Tryz.results83,go_sem,x0,x1,x2,x3,x4,x5]) rfl ⟨_,_,_,_,_,_,_,_,_,_,_,_,_,_,rfl,by rw[hv.out];exact OwP.zero _ _ _,slc⟩
set_option maxRecDepth 100000 in
set_option maxHeartbeats 8000000 in
theorem sSubtractPoints_any (w:World) {s:Bool}{A:Option Addr}{n c:Nat}{B:Option Addr}{m d:Nat}{t:Bool}{C:Option Addr}{i e:Nat}{D:Option Addr}{j f:Nat}{p:PtD}{s':Bool}{A':Option Addr}{n' c':Nat}{B':Option Addr}{m' d':Nat}{t':Bool}{C':Option Addr}{i' e':Nat}{D':Option Addr}{j' f':Nat}{p':PtD}(h:RdR w s A n c B m d p.x) (k:RdR w t C i e D j f p.y) (h':RdR w s' A' n' c' B' m' d' p'.x) (k':RdR w t' C' i' e' D' j' f' p'.y) :
    Calls Tryz.prog 43 #[.agg #[.bool s,.slice A n c,.slice B m d,.bool t,.slice C i e,.slice D j f],.agg #[.bool s',.slice A' n' c',.slice B' m' d',.bool t',.slice C' i' e',.slice D' j' f']] w fun en w'=> ∃ s1 A1 n1 c1 B1 m1 d1 t1 C1 i1 e1 D1 j1 f1,en=.returned (.agg #[.bool s1,.slice A1 n1 c1,.slice B1 m1 d1,.bool t1,.slice C1 i1 e1,.slice D1 j1 f1])∧OwP 3 w.heap.size w' s1 A1 n1 c1 B1 m1 d1 t1 C1 i1 e1 D1 j1 f1 (subP p p')∧Bl w w':=by
  go_enter Tryz.func43,Tryz.ntmps43
  go_wp2_with fail
  refine wp_gen (fun W=> Bl w W∧Blk W (w.heap.size) 76 #[.bool s,.slice A n c,.slice B m d,.bool t,.slice C i e,.slice D j f]∧Blk W (w.heap.size+1) 76 #[.bool s',.slice A' n' c',.slice B' m' d',.bool t',.slice C' i' e',.slice D' j' f']∧Wk 6 76 (w.heap.size+1+1) W) ⟨slc,bts,bts,bts⟩ ?_
  rintro W ⟨hbW,hx,hx',hr⟩
  go_region_held3 (fun w' =>(w'.cell? ⟨w.heap.size,0,none⟩=some (.bool s)∧w'.cell? ⟨w.heap.size,1,none⟩=some (.slice A n c)∧w'.cell? ⟨w.heap.size,2,none⟩=some (.slice B m d)∧w'.cell? ⟨w.heap.size,3,none⟩=some (.bool t)∧w'.cell? ⟨w.heap.size,4,none⟩=some (.slice C i e)∧w'.cell? ⟨w.heap.size,5,none⟩=some (.slice D j f))∧(w'.cell? ⟨w.heap.size+1,0,none⟩=some (.bool s')∧w'.cell? ⟨w.heap.size+1,1,none⟩=some (.slice A' n' c')∧w'.cell? ⟨w.heap.size+1,2,none⟩=some (.slice B' m' d')∧w'.cell? ⟨w.heap.size+1,3,none⟩=some (.bool t')∧w'.cell? ⟨w.heap.size+1,4,none⟩=some (.slice C' i' e')∧w'.cell? ⟨w.heap.size+1,5,none⟩=some (.slice D' j' f'))∧(w'.cell? ⟨w.heap.size+1+1,0,none⟩=some (cellD w' (w.heap.size+1+1) 0)∧w'.cell? ⟨w.heap.size+1+1,1,none⟩=some (cellD w' (w.heap.size+1+1) 1)∧w'.cell? ⟨w.heap.size+1+1,2,none⟩=some (cellD w' (w.heap.size+1+1) 2)∧w'.cell? ⟨w.heap.size+1+1,3,none⟩=some (cellD w' (w.heap.size+1+1) 3)∧w'.cell? ⟨w.heap.size+1+1,4,none⟩=some (cellD w' (w.heap.size+1+1) 4)∧w'.cell? ⟨w.heap.size+1+1,5,none⟩=some (cellD w' (w.heap.size+1+1) 5))∧w'.frozen? ⟨w.heap.size+1+1,0,none⟩=false∧w'.frozen? ⟨w.heap.size+1+1,1,none⟩=false∧w'.frozen? ⟨w.heap.size+1+1,2,none⟩=false∧w'.frozen? ⟨w.heap.size+1+1,3,none⟩=false∧w'.frozen? ⟨w.heap.size+1+1,4,none⟩=false∧w'.frozen? ⟨w.heap.size+1+1,5,none⟩=false) (first | exact⟨bx6 (T:=76) bts,bx6 (T:=76) bts,Wk.out6 (T:=76) bts⟩) (first |(go_at_call 84;with_reducible refine(sRatSub_any _ (h.bl slc) (h'.bl slc)).mono ?_;rintro en w2 ⟨s2,A2,n2,c2,B2,m2,d2,rfl,hR2,hb2⟩) |(go_at_call 84;with_reducible refine(sRatSub_any _ (k.bl slc) (k'.bl slc)).mono ?_;rintro en w3 ⟨s3,A3,n3,c3,B3,m3,d3,rfl,hR3,hb3⟩) |(go_at_call 83;refine(l05Valid_any (p:=⟨subR p.x p'.x,subR p.y p'.y⟩) _ (OwP.two hR2 hR3 hb3 (Bl.size hb2)) (Nat.le_trans (Bl.size hb2) (Bl.size hb3)) (subR_ok _ _) (subR_ok _ _)).mono ?_;rintro en w4 ⟨s1,A1,n1,c1,B1,m1,d1,t1,C1,i1,e1,D1,j1,f1,rfl,hX,hb4⟩))
  have hz:w.heap.size+1+1+1≤W.heap.size:=hr.lt
  have hr:=(show Wk 6 76 (w.heap.size+1+1) w4 from bts)
  have hbW:Bl w w4:=slc
  have hX:=hX.low (show w.heap.size+1+1+1≤W.drew.heap.size from hz)
  obtain⟨v0,x0⟩:=hr.val_ (i:=0) (by omega)
  obtain⟨v1,x1⟩:=hr.val_ (i:=1) (by omega)
  obtain⟨v2,x2⟩:=hr.val_ (i:=2) (by omega)
  obtain⟨v3,x3⟩:=hr.val_ (i:=3) (by omega)
  obtain⟨v4,x4⟩:=hr.val_ (i:=4) (by omega)
  obtain⟨v5,x5⟩:=hr.val_ (i:=5) (by omega)
  have hg:=hr.lt
  obtain⟨cs4,hB4,hc4⟩:=hr
  have hf0:=hB4.frozen 0
  have hf1:=hB4.frozen 1
  have hf2:=hB4.frozen 2
  have hf3:=hB4.frozen 3
  have hf4:=hB4.frozen 4
  have hf5:=hB4.frozen 5
  go_wp2_with fail
  exact bodyPost_ret (v:=.agg #[.bool s1,.slice A1 n1 c1,.slice B1 m1 d1,.bool t1,.slice C1 i1 e1,.slice D1 j1 f1]) (by simp[results,Tryz.results43,go_sem,x0,x1,x2,x3,x4,x5]) rfl ⟨_,_,_,_,_,_,_,_,_,_,_,_,_,_,rfl,((((((hX.far (by simp) _).far (by simp) _).far (by simp) _).far (by simp) _).far (by simp) _).far (by simp) _).low (by omega),slc⟩
set_option maxRecDepth 100000 in
set_option maxHeartbeats 8000000 in
theorem sCross_any (w:World) {s:Bool}{A:Option Addr}{n c:Nat}{B:Option Addr}{m d:Nat}{t:Bool}{C:Option Addr}{i e:Nat}{D:Option Addr}{j f:Nat}{p:PtD}{s':Bool}{A':Option Addr}{n' c':Nat}{B':Option Addr}{m' d':Nat}{t':Bool}{C':Option Addr}{i' e':Nat}{D':Option Addr}{j' f':Nat}{p':PtD}(h:RdR w s A n c B m d p.x) (k:RdR w t C i e D j f p.y) (h':RdR w s' A' n' c' B' m' d' p'.x) (k':RdR w t' C' i' e' D' j' f' p'.y) :
    Calls Tryz.prog 89 #[.agg #[.bool s,.slice A n c,.slice B m d,.bool t,.slice C i e,.slice D j f],.agg #[.bool s',.slice A' n' c',.slice B' m' d',.bool t',.slice C' i' e',.slice D' j' f']] w fun en w'=> ∃ s1 A1 n1 c1 B1 m1 d1,en=.returned (.agg #[.bool s1,.slice A1 n1 c1,.slice B1 m1 d1])∧OwR 3 w.heap.size w' s1 A1 n1 c1 B1 m1 d1 (crossP p p')∧Bl w w':=by
  go_enter Tryz.func89,Tryz.ntmps89
  go_wp2_with fail
  refine wp_gen (fun W=> Bl w W∧Blk W (w.heap.size) 76 #[.bool s,.slice A n c,.slice B m d,.bool t,.slice C i e,.slice D j f]∧Blk W (w.heap.size+1) 76 #[.bool s',.slice A' n' c',.slice B' m' d',.bool t',.slice C' i' e',.slice D' j' f']∧Wk 3 31 (w.heap.size+1+1) W) ⟨slc,bts,bts,bts⟩ ?_
  rintro W ⟨hbW,hx,hx',hr⟩
  go_region_held3 (fun w' =>(w'.cell? ⟨w.heap.size,0,none⟩=some (.bool s)∧w'.cell? ⟨w.heap.size,1,none⟩=some (.slice A n c)∧w'.cell? ⟨w.heap.size,2,none⟩=some (.slice B m d)∧w'.cell? ⟨w.heap.size,3,none⟩=some (.bool t)∧w'.cell? ⟨w.heap.size,4,none⟩=some (.slice C i e)∧w'.cell? ⟨w.heap.size,5,none⟩=some (.slice D j f))∧(w'.cell? ⟨w.heap.size+1,0,none⟩=some (.bool s')∧w'.cell? ⟨w.heap.size+1,1,none⟩=some (.slice A' n' c')∧w'.cell? ⟨w.heap.size+1,2,none⟩=some (.slice B' m' d')∧w'.cell? ⟨w.heap.size+1,3,none⟩=some (.bool t')∧w'.cell? ⟨w.heap.size+1,4,none⟩=some (.slice C' i' e')∧w'.cell? ⟨w.heap.size+1,5,none⟩=some (.slice D' j' f'))∧(w'.cell? ⟨w.heap.size+1+1,0,none⟩=some (cellD w' (w.heap.size+1+1) 0)∧w'.cell? ⟨w.heap.size+1+1,1,none⟩=some (cellD w' (w.heap.size+1+1) 1)∧w'.cell? ⟨w.heap.size+1+1,2,none⟩=some (cellD w' (w.heap.size+1+1) 2))∧w'.frozen? ⟨w.heap.size+1+1,0,none⟩=false∧w'.frozen? ⟨w.heap.size+1+1,1,none⟩=false∧w'.frozen? ⟨w.heap.size+1+1,2,none⟩=false) (first | exact⟨bx6 (T:=76) bts,bx6 (T:=76) bts,Wk.out3 (T:=31) bts⟩) (first |(go_at_call 86;with_reducible refine(sRatMul_any _ (h.bl slc) (k'.bl slc)).mono ?_;rintro en w2 ⟨s2,A2,n2,c2,B2,m2,d2,rfl,hR2,hb2⟩) |(go_at_call 86;with_reducible refine(sRatMul_any _ (k.bl slc) (h'.bl slc)).mono ?_;rintro en w3 ⟨s3,A3,n3,c3,B3,m3,d3,rfl,hR3,hb3⟩) |(go_at_call 84;refine(sRatSub_any _ (hR2.rd.bl hb3) hR3.rd).mono ?_;rintro en w4 ⟨s1,A1,n1,c1,B1,m1,d1,rfl,hR,hb4⟩))
  have hz:w.heap.size+1+1+1≤W.heap.size:=hr.lt
  have hz2:W.heap.size≤w2.heap.size:=(Bl.size hb2:W.drew.heap.size≤_)
  have hz3:w2.heap.size≤w3.heap.size:=Bl.size hb3
  have hr:=(show Wk 3 31 (w.heap.size+1+1) w4 from bts)
  have hbW:Bl w w4:=slc
  have hR:=hR.mono (show w.heap.size+1+1+1≤w3.heap.size by omega)
  obtain⟨v0,x0⟩:=hr.val_ (i:=0) (by omega)
  obtain⟨v1,x1⟩:=hr.val_ (i:=1) (by omega)
  obtain⟨v2,x2⟩:=hr.val_ (i:=2) (by omega)
  have hg:=hr.lt
  obtain⟨cs4,hB4,hc4⟩:=hr
  have hf0:=hB4.frozen 0
  have hf1:=hB4.frozen 1
  have hf2:=hB4.frozen 2
  go_wp2_with fail
  exact bodyPost_ret (v:=.agg #[.bool s1,.slice A1 n1 c1,.slice B1 m1 d1]) (by simp[results,Tryz.results89,go_sem,x0,x1,x2]) rfl ⟨_,_,_,_,_,_,_,rfl,(((hR.far (by simp) _).far (by simp) _).far (by simp) _).mono (by omega),slc⟩
set_option maxRecDepth 100000 in
set_option maxHeartbeats 8000000 in
theorem sDoubleArea_any (w:World) {s:Bool}{A:Option Addr}{n c:Nat}{B:Option Addr}{m d:Nat}{t:Bool}{C:Option Addr}{i e:Nat}{D:Option Addr}{j f:Nat}{p:PtD}{s':Bool}{A':Option Addr}{n' c':Nat}{B':Option Addr}{m' d':Nat}{t':Bool}{C':Option Addr}{i' e':Nat}{D':Option Addr}{j' f':Nat}{p':PtD}{s2:Bool}{A2:Option Addr}{n2 c2:Nat}{B2:Option Addr}{m2 d2:Nat}{t2:Bool}{C2:Option Addr}{i2 e2:Nat}{D2:Option Addr}{j2 f2:Nat}{p2:PtD}(h:RdR w s A n c B m d p.x) (k:RdR w t C i e D j f p.y) (h':RdR w s' A' n' c' B' m' d' p'.x) (k':RdR w t' C' i' e' D' j' f' p'.y) (h2:RdR w s2 A2 n2 c2 B2 m2 d2 p2.x) (k2:RdR w t2 C2 i2 e2 D2 j2 f2 p2.y) :
    Calls Tryz.prog 47 #[.agg #[.bool s,.slice A n c,.slice B m d,.bool t,.slice C i e,.slice D j f],.agg #[.bool s',.slice A' n' c',.slice B' m' d',.bool t',.slice C' i' e',.slice D' j' f'],.agg #[.bool s2,.slice A2 n2 c2,.slice B2 m2 d2,.bool t2,.slice C2 i2 e2,.slice D2 j2 f2]] w fun en w'=> ∃ s1 A1 n1 c1 B1 m1 d1,en=.returned (.agg #[.bool s1,.slice A1 n1 c1,.slice B1 m1 d1])∧OwR 3 w.heap.size w' s1 A1 n1 c1 B1 m1 d1 (dblA p p' p2)∧Bl w w':=by
  go_enter Tryz.func47,Tryz.ntmps47
  go_wp2_with fail
  refine wp_gen (fun W=> Bl w W∧Blk W (w.heap.size) 76 #[.bool s,.slice A n c,.slice B m d,.bool t,.slice C i e,.slice D j f]∧Blk W (w.heap.size+1) 76 #[.bool s',.slice A' n' c',.slice B' m' d',.bool t',.slice C' i' e',.slice D' j' f']∧Blk W (w.heap.size+1+1) 76 #[.bool s2,.slice A2 n2 c2,.slice B2 m2 d2,.bool t2,.slice C2 i2 e2,.slice D2 j2 f2]∧Wk 3 31 (w.heap.size+1+1+1) W) ⟨slc,bts,bts,bts,bts⟩ ?_
  rintro W ⟨hbW,hx,hx',hx2,hr⟩
  go_region_held3 (fun w' =>(w'.cell? ⟨w.heap.size,0,none⟩=some (.bool s)∧w'.cell? ⟨w.heap.size,1,none⟩=some (.slice A n c)∧w'.cell? ⟨w.heap.size,2,none⟩=some (.slice B m d)∧w'.cell? ⟨w.heap.size,3,none⟩=some (.bool t)∧w'.cell? ⟨w.heap.size,4,none⟩=some (.slice C i e)∧w'.cell? ⟨w.heap.size,5,none⟩=some (.slice D j f))∧(w'.cell? ⟨w.heap.size+1,0,none⟩=some (.bool s')∧w'.cell? ⟨w.heap.size+1,1,none⟩=some (.slice A' n' c')∧w'.cell? ⟨w.heap.size+1,2,none⟩=some (.slice B' m' d')∧w'.cell? ⟨w.heap.size+1,3,none⟩=some (.bool t')∧w'.cell? ⟨w.heap.size+1,4,none⟩=some (.slice C' i' e')∧w'.cell? ⟨w.heap.size+1,5,none⟩=some (.slice D' j' f'))∧(w'.cell? ⟨w.heap.size+1+1,0,none⟩=some (.bool s2)∧w'.cell? ⟨w.heap.size+1+1,1,none⟩=some (.slice A2 n2 c2)∧w'.cell? ⟨w.heap.size+1+1,2,none⟩=some (.slice B2 m2 d2)∧w'.cell? ⟨w.heap.size+1+1,3,none⟩=some (.bool t2)∧w'.cell? ⟨w.heap.size+1+1,4,none⟩=some (.slice C2 i2 e2)∧w'.cell? ⟨w.heap.size+1+1,5,none⟩=some (.slice D2 j2 f2))∧(w'.cell? ⟨w.heap.size+1+1+1,0,none⟩=some (cellD w' (w.heap.size+1+1+1) 0)∧w'.cell? ⟨w.heap.size+1+1+1,1,none⟩=some (cellD w' (w.heap.size+1+1+1) 1)∧w'.cell? ⟨w.heap.size+1+1+1,2,none⟩=some (cellD w' (w.heap.size+1+1+1) 2))∧w'.frozen? ⟨w.heap.size+1+1+1,0,none⟩=false∧w'.frozen? ⟨w.heap.size+1+1+1,1,none⟩=false∧w'.frozen? ⟨w.heap.size+1+1+1,2,none⟩=false) (first | exact⟨bx6 (T:=76) bts,bx6 (T:=76) bts,bx6 (T:=76) bts,Wk.out3 (T:=31) bts⟩) (first |(go_at_call 43;with_reducible refine(sSubtractPoints_any _ (h'.bl slc) (k'.bl slc) (h.bl slc) (k.bl slc)).mono ?_;rintro en w2 ⟨s3,A3,n3,c3,B3,m3,d3,t3,C3,i3,e3,D3,j3,f3,rfl,hP2,hb2⟩) |(go_at_call 43;with_reducible refine(sSubtractPoints_any _ (h2.bl slc) (k2.bl slc) (h.bl slc) (k.bl slc)).mono ?_;rintro en w3 ⟨s4,A4,n4,c4,B4,m4,d4,t4,C4,i4,e4,D4,j4,f4,rfl,hP3,hb3⟩) |(go_at_call 89;refine(sCross_any _ (hP2.rx.bl hb3) (hP2.ry.bl hb3) hP3.rx hP3.ry).mono ?_;rintro en w4 ⟨s1,A1,n1,c1,B1,m1,d1,rfl,hR,hb4⟩))
  have hz:w.heap.size+1+1+1+1≤W.heap.size:=hr.lt
  have hz2:W.heap.size≤w2.heap.size:=(Bl.size hb2:W.drew.heap.size≤_)
  have hz3:w2.heap.size≤w3.heap.size:=Bl.size hb3
  have hr:=(show Wk 3 31 (w.heap.size+1+1+1) w4 from bts)
  have hbW:Bl w w4:=slc
  have hR:=hR.mono (show w.heap.size+1+1+1+1≤w3.heap.size by omega)
  obtain⟨v0,x0⟩:=hr.val_ (i:=0) (by omega)
  obtain⟨v1,x1⟩:=hr.val_ (i:=1) (by omega)
  obtain⟨v2,x2⟩:=hr.val_ (i:=2) (by omega)
  have hg:=hr.lt
  obtain⟨cs4,hB4,hc4⟩:=hr
  have hf0:=hB4.frozen 0
  have hf1:=hB4.frozen 1
  have hf2:=hB4.frozen 2
  go_wp2_with fail
  exact bodyPost_ret (v:=.agg #[.bool s1,.slice A1 n1 c1,.slice B1 m1 d1]) (by simp[results,Tryz.results47,go_sem,x0,x1,x2]) rfl ⟨_,_,_,_,_,_,_,rfl,(((hR.far (by simp) _).far (by simp) _).far (by simp) _).mono (by omega),slc⟩
end

end Go.Proofs.YtjaapemopbbfaaaGreat
