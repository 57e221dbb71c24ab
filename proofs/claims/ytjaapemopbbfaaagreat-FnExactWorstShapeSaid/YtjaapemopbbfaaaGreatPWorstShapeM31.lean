/- Lemmas. -/
import Derived.Test.YtjaapemopbbfaaaGreatRows
import Derived.Test.YtjaapemopbbfaaaGreatPWorstShapeM30
import Derived.Test.YtjaapemopbbfaaaGreatPWorstShapeM19
namespace Go.Proofs.YtjaapemopbbfaaaGreat
section
open Go.RowKit

/-- A fraction, none of it in block g. -/
def OwE (T:TypeId) (g:Nat) (w:World) (s:Bool) (A:Option Addr) (n c:Nat) (B:Option Addr) (m d:Nat) (r:RatD):Prop :=
  ∃ bs,FtR T w s A n c B m d r bs∧∀ b ∈ bs,b≠g
section
variable {T:TypeId}{b0 g:Nat}{w W:World}{s:Bool}{A:Option Addr}{n c:Nat}{B:Option Addr}{m d:Nat}{r:RatD}
theorem OwE.rd (h:OwE T g w s A n c B m d r):RdR w s A n c B m d r:=by
  obtain⟨bs,h,_⟩:=h
  exact h.rd
theorem OwE.bl (h:OwE T g w s A n c B m d r) (hb:Bl w W):OwE T g W s A n c B m d r:=by
  obtain⟨bs,h,hf⟩:=h
  exact⟨bs,h.bl hb,hf⟩
theorem OwE.set (h:OwE T g w s A n c B m d r) (i:Nat) (u:Value):OwE T g (w.setCell ⟨g,i,none⟩ u) s A n c B m d r:=by
  obtain⟨bs,h,hf⟩:=h
  exact⟨bs,h.keep (by simp) (fun b hb=> Below.heap_setCell w _ u b (hf b hb)),hf⟩
theorem OwQ.exc (h:OwQ T b0 w s A n c B m d r) (hb:Bl w W):OwE T w.heap.size W s A n c B m d r:=by
  obtain⟨bs,h,hf⟩:=h
  exact⟨bs,h.bl hb,fun b hm=> by have:=(hf _ hm).2;omega⟩
theorem OwQ.exc2 (h:OwQ T b0 w s A n c B m d r) (hg:g < b0):OwE T g w s A n c B m d r:=by
  obtain⟨bs,h,hf⟩:=h
  exact⟨bs,h,fun b hm=> by have:=(hf _ hm).1;omega⟩
theorem Blk.fz3 {a b c:Value}{T:TypeId}(h:Blk W g T #[a,b,c]):W.frozen? ⟨g,0,none⟩=false∧W.frozen? ⟨g,1,none⟩=false∧W.frozen? ⟨g,2,none⟩=false:=⟨h.frozen 0,h.frozen 1,h.frozen 2⟩
end
theorem Wk.put6 {W:World}{g:Nat}{T:TypeId}(h:Wk 6 T g W) (a b c a' b' c':Value):Blk ((((((W.setCell ⟨g,0,none⟩ a).setCell ⟨g,1,none⟩ b).setCell ⟨g,2,none⟩ c).setCell ⟨g,3,none⟩ a').setCell ⟨g,4,none⟩ b').setCell ⟨g,5,none⟩ c') g T #[a,b,c,a',b',c']:=by
  obtain⟨⟨l⟩,h1,h2⟩:=h
  have h3:=(((((h1.set_ 0 a).set_ 1 b).set_ 2 c).set_ 3 a').set_ 4 b').set_ 5 c'
  rcases l with _ |⟨u,_ |⟨v,_ |⟨x,_ |⟨y,_ |⟨z,_ |⟨t,_ |⟨q,l⟩⟩⟩⟩⟩⟩⟩ <;> simp at h2
  exact h3
/-- The square of a side. -/
noncomputable def sideR (a b:PtD):RatD:=innP (subP b a) (subP b a)
noncomputable def longF (r0:RatD) (p0 p1 p2:PtD):Nat→RatD
  | 0=> r0
  | 1=> maxR r0 (sideR p0 p1)
  | 2=> maxR (maxR r0 (sideR p0 p1)) (sideR p1 p2)
  | _+3=> maxR (maxR (maxR r0 (sideR p0 p1)) (sideR p1 p2)) (sideR p2 p0)
noncomputable def shapeR (p0 p1 p2:PtD):RatD:=divR (dblA p0 p1 p2) (longF (sideR p0 p1) p0 p1 p2 3)
noncomputable def shapeL (l:List PtD):RatD:=if propB l=true then shapeR (pix l 0) (pix l 1) (pix l 2) else zR
theorem rn_ofFrac {x:Int}{D:Nat}(hx:0≤x):0≤rn (ofFrac x D):=by
  unfold ofFrac
  split
  · rw[rn_raw]
    exact Int.ediv_nonneg hx (by omega)
  · exact Int.le_refl _
theorem mulR_self (r:RatD):0≤rn (mulR r r):=by
  unfold mulR
  split
  · refine rn_ofFrac ?_
    rcases Int.le_total 0 (rn r) with h | h
    · exact Int.mul_nonneg h h
    · exact Int.mul_nonneg_of_nonpos_of_nonpos h h
  · exact Int.le_refl _
theorem addR_nn {r s:RatD}(hr:0≤rn r) (hs:0≤rn s):0≤rn (addR r s):=by
  unfold addR
  split
  · exact rn_ofFrac (Int.add_nonneg (Int.mul_nonneg hr (by omega)) (Int.mul_nonneg hs (by omega)))
  · exact Int.le_refl _
theorem innP_self (p:PtD):0≤rn (innP p p):=addR_nn (mulR_self _) (mulR_self _)
theorem ok_zero:OkR (ofFrac 0 1):=by
  rw[ofFrac_int (by omega) (by omega)]
  exact⟨0,1,rfl,by omega,by decide,dig_len_le.2 (by decide),dig_len_le.2 (by decide)⟩
theorem max_zero {r:RatD}(h:0≤rn r):maxR (ofFrac 0 1) r=maxR r r:=by
  by_cases ho:OkR r
  · rw[maxR_val ⟨ok_zero,ho⟩,maxR_val ⟨ho,ho⟩]
    have e:ofFrac 0 1=raw 0 1:=ofFrac_int (by omega) (by omega)
    rw[e,rn_raw,rd_raw]
    rw[show (if 0≤cmpZ (rn r * (rd r:Int)) (rn r * (rd r:Int)) then r else r)=r from by split <;> rfl]
    rcases Int.lt_or_le 0 (rn r) with hp | hp
    · rw[if_neg]
      unfold cmpZ
      rw[if_pos (by simpa using hp)]
      omega
    · have h0:rn r=0:=by omega
      have g:=ho.get
      rw[h0] at g
      have hD:rd r=1:=by have:=g.2.2.1;simpa using this
      rw[hD] at g
      rw[if_pos]
      · exact g.1.symm
      · rw[h0];simp[cmpZ]
  · unfold maxR
    rw[if_neg (fun hk=> ho hk.2),if_neg (fun hk=> ho hk.2)]
theorem long_same (p0 p1 p2:PtD):longF (ofFrac 0 1) p0 p1 p2 3=longF (sideR p0 p1) p0 p1 p2 3:=by
  show maxR (maxR (maxR _ _) _) _=maxR (maxR (maxR _ _) _) _
  have e:maxR (ofFrac 0 1) (sideR p0 p1)=maxR (sideR p0 p1) (sideR p0 p1):=max_zero (innP_self _)
  rw[e]

set_option maxRecDepth 100000 in
set_option maxHeartbeats 32000000 in
theorem ShapeOf_any (w:World) {g n c0:Nat}{l:List PtD}(h:RdPS w (some ⟨g,0,none⟩) n c0 l) :
    Calls Tryz.prog 22 #[.slice (some ⟨g,0,none⟩) n c0] w fun e w'=> ∃ s1 A1 n1 c1 B1 m1 d1,e=.returned (.agg #[.bool s1,.slice A1 n1 c1,.slice B1 m1 d1])∧OwR 3 w.heap.size w' s1 A1 n1 c1 B1 m1 d1 (shapeL l)∧Bl w w':=by
  by_cases hp:propB l=true
  · obtain⟨_,p0,p1,p2,e,_⟩:=propB_out hp
    subst e
    obtain rfl:3=n:=h.len
    have hv:shapeL [p0,p1,p2]=shapeR p0 p1 p2:=by unfold shapeL;rw[if_pos hp];rfl
    rw[hv]
    clear hv
    have hp:=Lib.hid hp;rename_i h_;clear h_
    obtain⟨_,e0,hg,hc0⟩:=h.cells 0 (by omega)
    cases e0
    rw[Addr.add_lit] at hc0
    obtain⟨s,A,n,c,B,m,d,t,C,i,e,D,j,f,⟨x0,x1,x2,x3,x4,x5⟩,hX0,hY0⟩:=(show PtAt w ⟨g,0,none⟩ p0 from hc0)
    have x0:w.cell? ⟨g,0,none⟩=some (.bool s):=x0
    have x1:w.cell? ⟨g,1,none⟩=some (.slice A n c):=x1
    have x2:w.cell? ⟨g,2,none⟩=some (.slice B m d):=x2
    have x3:w.cell? ⟨g,3,none⟩=some (.bool t):=x3
    have x4:w.cell? ⟨g,4,none⟩=some (.slice C i e):=x4
    have x5:w.cell? ⟨g,5,none⟩=some (.slice D j f):=x5
    obtain⟨_,e0,hg,hc1⟩:=h.cells 1 (by omega)
    cases e0
    rw[Addr.add_lit] at hc1
    obtain⟨s',A',n',c',B',m',d',t',C',i',e',D',j',f',⟨y0,y1,y2,y3,y4,y5⟩,hX1,hY1⟩:=(show PtAt w ⟨g,6,none⟩ p1 from hc1)
    have y0:w.cell? ⟨g,6,none⟩=some (.bool s'):=y0
    have y1:w.cell? ⟨g,7,none⟩=some (.slice A' n' c'):=y1
    have y2:w.cell? ⟨g,8,none⟩=some (.slice B' m' d'):=y2
    have y3:w.cell? ⟨g,9,none⟩=some (.bool t'):=y3
    have y4:w.cell? ⟨g,10,none⟩=some (.slice C' i' e'):=y4
    have y5:w.cell? ⟨g,11,none⟩=some (.slice D' j' f'):=y5
    obtain⟨_,e0,hg,hc2⟩:=h.cells 2 (by omega)
    cases e0
    rw[Addr.add_lit] at hc2
    obtain⟨s2,A2,n2,c2,B2,m2,d2,t2,C2,i2,e2,D2,j2,f2,⟨z0,z1,z2,z3,z4,z5⟩,hX2,hY2⟩:=(show PtAt w ⟨g,12,none⟩ p2 from hc2)
    have z0:w.cell? ⟨g,12,none⟩=some (.bool s2):=z0
    have z1:w.cell? ⟨g,13,none⟩=some (.slice A2 n2 c2):=z1
    have z2:w.cell? ⟨g,14,none⟩=some (.slice B2 m2 d2):=z2
    have z3:w.cell? ⟨g,15,none⟩=some (.bool t2):=z3
    have z4:w.cell? ⟨g,16,none⟩=some (.slice C2 i2 e2):=z4
    have z5:w.cell? ⟨g,17,none⟩=some (.slice D2 j2 f2):=z5
    clear hc0 hc1 hc2
    go_enter Tryz.func22,Tryz.ntmps22
    go_wp2_with fail
    refine calls_gen (fun W=> Bl w W∧Wk 3 31 (w.heap.size) W) ⟨slc,bts⟩ ?_
    rintro W ⟨hbW,hr⟩
    refine(IsProper_any _ (RdPS.bl h hbW)).mono ?_
    rw[hp.out]
    rintro e w1 ⟨rfl,hb1⟩
    have hz0:w.heap.size < W.heap.size:=hr.lt
    have hr:=hr.bl hb1
    have hbW:=hbW.next hb1
    clear hb1
    go_wp2_with fail
    refine(RatFromInt_any _ 0 (by omega) (by omega)).mono ?_
    rintro e w5 ⟨s9,A9,n9,c9,B9,m9,d9,rfl,hR0,hb5⟩
    have hr:=hr.bl hb5
    have hbW:=hbW.next hb5
    have hz5:w.heap.size < w5.heap.size:=hr.lt
    go_wp2_with fail
    go_loopw [13] (fun i wr=> ∃ (k:Nat) (s9:Bool) (A9:Option Addr) (n9 c9:Nat) (B9:Option Addr) (m9 d9:Nat),k≤3∧i=.int .i64 (k:Int)∧Blk wr w5.heap.size 31 #[.bool s9,.slice A9 n9 c9,.slice B9 m9 d9]∧OwE 3 w5.heap.size wr s9 A9 n9 c9 B9 m9 d9 (longF (ofFrac 0 1) p0 p1 p2 k)∧Wk 3 31 w.heap.size wr∧Bl w wr) (fun i _=> 3 - (intOf i).toNat)
    case atStart=> exact⟨0,s9,A9,n9,c9,B9,m9,d9,by omega,rfl,Blk.new _ _ _,(OwQ.of hR0).exc ((Bl.refl w5).alloc _),hr.alloc _,hbW.alloc _⟩
    case round =>
      clear hr hbW hR0 hz0
      obtain⟨k,s9,A9,n9,c9,B9,m9,d9,hk,rfl,hx,hO,hr,hbw⟩:=hrel
      rcases(show k=0∨k=1∨k=2∨k=3 by omega) with rfl | rfl | rfl | rfl
      · skip
        have e0:((0:Nat):Int)=0:=rfl
        rw[e0]
        clear e0 hk
        have hw:IntKind.i64.wrap 1=1:=by rfl
        have hgl:w5.heap.size < wr.heap.size:=hx.lt
        go_wp2_with fail
        go_region_held3 (fun w' =>(w'.cell? ⟨g,6,none⟩=some (.bool s')∧w'.cell? ⟨g,7,none⟩=some (.slice A' n' c')∧w'.cell? ⟨g,8,none⟩=some (.slice B' m' d')∧w'.cell? ⟨g,9,none⟩=some (.bool t')∧w'.cell? ⟨g,10,none⟩=some (.slice C' i' e')∧w'.cell? ⟨g,11,none⟩=some (.slice D' j' f'))∧(w'.cell? ⟨g,0,none⟩=some (.bool s)∧w'.cell? ⟨g,1,none⟩=some (.slice A n c)∧w'.cell? ⟨g,2,none⟩=some (.slice B m d)∧w'.cell? ⟨g,3,none⟩=some (.bool t)∧w'.cell? ⟨g,4,none⟩=some (.slice C i e)∧w'.cell? ⟨g,5,none⟩=some (.slice D j f))) (first | exact⟨⟨(Bl.cellOf (w:=w) (p:=⟨g,6,none⟩) slc hg).trans y0,(Bl.cellOf (w:=w) (p:=⟨g,7,none⟩) slc hg).trans y1,(Bl.cellOf (w:=w) (p:=⟨g,8,none⟩) slc hg).trans y2,(Bl.cellOf (w:=w) (p:=⟨g,9,none⟩) slc hg).trans y3,(Bl.cellOf (w:=w) (p:=⟨g,10,none⟩) slc hg).trans y4,(Bl.cellOf (w:=w) (p:=⟨g,11,none⟩) slc hg).trans y5⟩,⟨(Bl.cellOf (w:=w) (p:=⟨g,0,none⟩) slc hg).trans x0,(Bl.cellOf (w:=w) (p:=⟨g,1,none⟩) slc hg).trans x1,(Bl.cellOf (w:=w) (p:=⟨g,2,none⟩) slc hg).trans x2,(Bl.cellOf (w:=w) (p:=⟨g,3,none⟩) slc hg).trans x3,(Bl.cellOf (w:=w) (p:=⟨g,4,none⟩) slc hg).trans x4,(Bl.cellOf (w:=w) (p:=⟨g,5,none⟩) slc hg).trans x5⟩⟩) (first |(go_at_call 65;refine(SubtractPoints_any _ (hX1.bl slc) (hY1.bl slc) (hX0.bl slc) (hY0.bl slc)).mono ?_;rintro en w2 ⟨s3,A3,n3,c3,B3,m3,d3,t3,C3,i3,e3,D3,j3,f3,rfl,hP,hb2⟩;(first | have hq:Wk 6 76 _ _:=wk_newd hb2 | have hq:Wk 6 76 _ _:=wk_new hb2 | skip);(try obtain⟨⟨q0,q1,q2,q3,q4,q5⟩,fz0,fz1,fz2,fz3,fz4,fz5⟩:=hq.out6)))
        · skip
          go_wp2_with fail
          refine wp_gen (fun W=> Bl w W∧Blk W (w2.heap.size) 76 #[.bool s3,.slice A3 n3 c3,.slice B3 m3 d3,.bool t3,.slice C3 i3 e3,.slice D3 j3 f3]∧Blk W w5.heap.size 31 #[.bool s9,.slice A9 n9 c9,.slice B9 m9 d9]∧OwE 3 w5.heap.size W s9 A9 n9 c9 B9 m9 d9 (longF (ofFrac 0 1) p0 p1 p2 0)∧Wk 3 31 w.heap.size W∧RdR W s3 A3 n3 c3 B3 m3 d3 (subP p1 p0).x∧RdR W t3 C3 i3 e3 D3 j3 f3 (subP p1 p0).y) ⟨slc,Blk.new _ _ _,hx.bl slc,hO.bl slc,hr.bl slc,hP.rx.bl slc,hP.ry.bl slc⟩ ?_
          clear hP hb2 hbw hr hx hO
          rintro W ⟨hbW,hxs,hxl,hO,hr,hPx,hPy⟩
          have hHeld:(fun w' =>(w'.cell? ⟨w5.heap.size,0,none⟩=some (.bool s9)∧w'.cell? ⟨w5.heap.size,1,none⟩=some (.slice A9 n9 c9)∧w'.cell? ⟨w5.heap.size,2,none⟩=some (.slice B9 m9 d9))∧(w'.cell? ⟨w2.heap.size,0,none⟩=some (.bool s3)∧w'.cell? ⟨w2.heap.size,1,none⟩=some (.slice A3 n3 c3)∧w'.cell? ⟨w2.heap.size,2,none⟩=some (.slice B3 m3 d3)∧w'.cell? ⟨w2.heap.size,3,none⟩=some (.bool t3)∧w'.cell? ⟨w2.heap.size,4,none⟩=some (.slice C3 i3 e3)∧w'.cell? ⟨w2.heap.size,5,none⟩=some (.slice D3 j3 f3))) (W.drew):=⟨bx3 (T:=31) bts,bx6 (T:=76) bts⟩
          refine wp_region_T 5 6 (fun w' =>(w'.cell? ⟨w5.heap.size,0,none⟩=some (.bool s9)∧w'.cell? ⟨w5.heap.size,1,none⟩=some (.slice A9 n9 c9)∧w'.cell? ⟨w5.heap.size,2,none⟩=some (.slice B9 m9 d9))∧(w'.cell? ⟨w2.heap.size,0,none⟩=some (.bool s3)∧w'.cell? ⟨w2.heap.size,1,none⟩=some (.slice A3 n3 c3)∧w'.cell? ⟨w2.heap.size,2,none⟩=some (.slice B3 m3 d3)∧w'.cell? ⟨w2.heap.size,3,none⟩=some (.bool t3)∧w'.cell? ⟨w2.heap.size,4,none⟩=some (.slice C3 i3 e3)∧w'.cell? ⟨w2.heap.size,5,none⟩=some (.slice D3 j3 f3))) rfl (by kernel_rfl) hHeld ?_
          refine wpAnyT_take (i:=0) (oi:=_) (v:=?_) (fuel:=5) rfl (by kernel_rfl) (by kernel_rfl) (by kernel_rfl) (by kernel_rfl) (fun _ _ _ h=> h) (by rfl) ?_ hHeld ?_
          rotate_left 1
          · (intro w' hSw;(try dsimp only at hSw);go_simp <;> with_reducible rfl)
          refine wpAnyT_take (i:=1) (oi:=_) (v:=?_) (fuel:=4) rfl (by kernel_rfl) (by kernel_rfl) (by kernel_rfl) (by kernel_rfl) (fun _ _ _ h=> h) (by rfl) ?_ hHeld ?_
          rotate_left 1
          · (intro w' hSw;(try dsimp only at hSw);go_simp <;> with_reducible rfl)
          refine wpAnyT_take (i:=2) (oi:=_) (v:=?_) (fuel:=3) rfl (by kernel_rfl) (by kernel_rfl) (by kernel_rfl) (by kernel_rfl) (fun _ _ _ h=> h) (by rfl) ?_ hHeld ?_
          rotate_left 1
          · (intro w' hSw;(try dsimp only at hSw);go_simp <;> with_reducible rfl)
          clear hHeld
          simp only[Act.put,List.setIfInBounds_toArray]
          refine wpAnyT_step (i:=3) (o:=_) (fuel:=2) rfl (by kernel_rfl) (fun K hK=> ?_)
          go_simp
          refine(Inner_any _ (hPx.bl slc) (hPy.bl slc) (hPx.bl slc) (hPy.bl slc)).mono ?_
          rintro e w6 ⟨s4,A4,n4,c4,B4,m4,d4,rfl,hR4,hb6⟩
          refine hK.out _ _ (fun _ =>⟨bx3 (T:=31) bts,bx6 (T:=76) bts⟩) ?_
          clear hK K
          try simp only[Act.put,List.setIfInBounds_toArray,List.set_cons_zero,List.set_cons_succ]
          refine wpAnyT_step (i:=4) (o:=_) (fuel:=1) rfl (by kernel_rfl) (fun K hK=> ?_)
          go_simp
          refine(RatMax_any _ (hO.rd.bl slc) hR4.rd).mono ?_
          rintro e w7 ⟨s5,A5,n5,c5,B5,m5,d5,rfl,hR5,hb7⟩
          refine hK.out _ _ (fun _ =>⟨bx3 (T:=31) bts,bx6 (T:=76) bts⟩) ?_
          clear hK K
          try simp only[Act.put,List.setIfInBounds_toArray,List.set_cons_zero,List.set_cons_succ]
          have hx4:=(hxl.drew.bl hb6).bl hb7
          obtain⟨z0',z1',z2'⟩:=bx3 hx4
          obtain⟨y0',y1',y2'⟩:=hx4.fz3
          refine wpAnyT_step (i:=5) (o:=_) (fuel:=0) rfl (by kernel_rfl) (fun K hK=> ?_)
          go_simp
          refine hK.out _ _ (fun h=> absurd rfl h) ?_
          clear hK K
          try simp only[Act.put,List.setIfInBounds_toArray,List.set_cons_zero,List.set_cons_succ]
          refine wpAnyT_done (by kernel_rfl) ?_
          have hr4:=(hr.drew.bl hb6).bl hb7
          have hz6:w5.heap.size < w6.heap.size:=Nat.lt_of_lt_of_le hxl.drew.lt (Bl.size hb6)
          have hE:=OwQ.exc2 (OwQ.of hR5) hz6
          go_wp2_with fail
          go_roundw
          case rel=> exact⟨1,s5,A5,n5,c5,B5,m5,d5,by omega,rfl,(Wk.of hx4 rfl).put3 _ _ _,((hE.set _ _).set _ _).set _ _,((hr4.far (by simp;omega) _).far (by simp;omega) _).far (by simp;omega) _,slc⟩
          case measure=> simp[intOf]
        · skip
          go_wp2_with fail
          refine wp_gen (fun W=> Bl w W∧Blk W (wr.heap.size) 76 #[.bool s3,.slice A3 n3 c3,.slice B3 m3 d3,.bool t3,.slice C3 i3 e3,.slice D3 j3 f3]∧Blk W w5.heap.size 31 #[.bool s9,.slice A9 n9 c9,.slice B9 m9 d9]∧OwE 3 w5.heap.size W s9 A9 n9 c9 B9 m9 d9 (longF (ofFrac 0 1) p0 p1 p2 0)∧Wk 3 31 w.heap.size W∧RdR W s3 A3 n3 c3 B3 m3 d3 (subP p1 p0).x∧RdR W t3 C3 i3 e3 D3 j3 f3 (subP p1 p0).y) ⟨slc,Wk.put6 hq _ _ _ _ _ _,hx.bl slc,hO.bl slc,hr.bl slc,((((((hP.far (by simp) _).far (by simp) _).far (by simp) _).far (by simp) _).far (by simp) _).far (by simp) _).rx,((((((hP.far (by simp) _).far (by simp) _).far (by simp) _).far (by simp) _).far (by simp) _).far (by simp) _).ry⟩ ?_
          clear hP hb2 hbw hr hx hO
          rintro W ⟨hbW,hxs,hxl,hO,hr,hPx,hPy⟩
          have hHeld:(fun w' =>(w'.cell? ⟨w5.heap.size,0,none⟩=some (.bool s9)∧w'.cell? ⟨w5.heap.size,1,none⟩=some (.slice A9 n9 c9)∧w'.cell? ⟨w5.heap.size,2,none⟩=some (.slice B9 m9 d9))∧(w'.cell? ⟨wr.heap.size,0,none⟩=some (.bool s3)∧w'.cell? ⟨wr.heap.size,1,none⟩=some (.slice A3 n3 c3)∧w'.cell? ⟨wr.heap.size,2,none⟩=some (.slice B3 m3 d3)∧w'.cell? ⟨wr.heap.size,3,none⟩=some (.bool t3)∧w'.cell? ⟨wr.heap.size,4,none⟩=some (.slice C3 i3 e3)∧w'.cell? ⟨wr.heap.size,5,none⟩=some (.slice D3 j3 f3))) (W.drew):=⟨bx3 (T:=31) bts,bx6 (T:=76) bts⟩
          refine wp_region_T 5 6 (fun w' =>(w'.cell? ⟨w5.heap.size,0,none⟩=some (.bool s9)∧w'.cell? ⟨w5.heap.size,1,none⟩=some (.slice A9 n9 c9)∧w'.cell? ⟨w5.heap.size,2,none⟩=some (.slice B9 m9 d9))∧(w'.cell? ⟨wr.heap.size,0,none⟩=some (.bool s3)∧w'.cell? ⟨wr.heap.size,1,none⟩=some (.slice A3 n3 c3)∧w'.cell? ⟨wr.heap.size,2,none⟩=some (.slice B3 m3 d3)∧w'.cell? ⟨wr.heap.size,3,none⟩=some (.bool t3)∧w'.cell? ⟨wr.heap.size,4,none⟩=some (.slice C3 i3 e3)∧w'.cell? ⟨wr.heap.size,5,none⟩=some (.slice D3 j3 f3))) rfl (by kernel_rfl) hHeld ?_
          refine wpAnyT_take (i:=0) (oi:=_) (v:=?_) (fuel:=5) rfl (by kernel_rfl) (by kernel_rfl) (by kernel_rfl) (by kernel_rfl) (fun _ _ _ h=> h) (by rfl) ?_ hHeld ?_
          rotate_left 1
          · (intro w' hSw;(try dsimp only at hSw);go_simp <;> with_reducible rfl)
          refine wpAnyT_take (i:=1) (oi:=_) (v:=?_) (fuel:=4) rfl (by kernel_rfl) (by kernel_rfl) (by kernel_rfl) (by kernel_rfl) (fun _ _ _ h=> h) (by rfl) ?_ hHeld ?_
          rotate_left 1
          · (intro w' hSw;(try dsimp only at hSw);go_simp <;> with_reducible rfl)
          refine wpAnyT_take (i:=2) (oi:=_) (v:=?_) (fuel:=3) rfl (by kernel_rfl) (by kernel_rfl) (by kernel_rfl) (by kernel_rfl) (fun _ _ _ h=> h) (by rfl) ?_ hHeld ?_
          rotate_left 1
          · (intro w' hSw;(try dsimp only at hSw);go_simp <;> with_reducible rfl)
          clear hHeld
          simp only[Act.put,List.setIfInBounds_toArray]
          refine wpAnyT_step (i:=3) (o:=_) (fuel:=2) rfl (by kernel_rfl) (fun K hK=> ?_)
          go_simp
          refine(Inner_any _ (hPx.bl slc) (hPy.bl slc) (hPx.bl slc) (hPy.bl slc)).mono ?_
          rintro e w6 ⟨s4,A4,n4,c4,B4,m4,d4,rfl,hR4,hb6⟩
          refine hK.out _ _ (fun _ =>⟨bx3 (T:=31) bts,bx6 (T:=76) bts⟩) ?_
          clear hK K
          try simp only[Act.put,List.setIfInBounds_toArray,List.set_cons_zero,List.set_cons_succ]
          refine wpAnyT_step (i:=4) (o:=_) (fuel:=1) rfl (by kernel_rfl) (fun K hK=> ?_)
          go_simp
          refine(RatMax_any _ (hO.rd.bl slc) hR4.rd).mono ?_
          rintro e w7 ⟨s5,A5,n5,c5,B5,m5,d5,rfl,hR5,hb7⟩
          refine hK.out _ _ (fun _ =>⟨bx3 (T:=31) bts,bx6 (T:=76) bts⟩) ?_
          clear hK K
          try simp only[Act.put,List.setIfInBounds_toArray,List.set_cons_zero,List.set_cons_succ]
          have hx4:=(hxl.drew.bl hb6).bl hb7
          obtain⟨z0',z1',z2'⟩:=bx3 hx4
          obtain⟨y0',y1',y2'⟩:=hx4.fz3
          refine wpAnyT_step (i:=5) (o:=_) (fuel:=0) rfl (by kernel_rfl) (fun K hK=> ?_)
          go_simp
          refine hK.out _ _ (fun h=> absurd rfl h) ?_
          clear hK K
          try simp only[Act.put,List.setIfInBounds_toArray,List.set_cons_zero,List.set_cons_succ]
          refine wpAnyT_done (by kernel_rfl) ?_
          have hr4:=(hr.drew.bl hb6).bl hb7
          have hz6:w5.heap.size < w6.heap.size:=Nat.lt_of_lt_of_le hxl.drew.lt (Bl.size hb6)
          have hE:=OwQ.exc2 (OwQ.of hR5) hz6
          go_wp2_with fail
          go_roundw
          case rel=> exact⟨1,s5,A5,n5,c5,B5,m5,d5,by omega,rfl,(Wk.of hx4 rfl).put3 _ _ _,((hE.set _ _).set _ _).set _ _,((hr4.far (by simp;omega) _).far (by simp;omega) _).far (by simp;omega) _,slc⟩
          case measure=> simp[intOf]
      · skip
        have e0:((1:Nat):Int)=1:=rfl
        rw[e0]
        clear e0 hk
        have hw:IntKind.i64.wrap 2=2:=by rfl
        have hgl:w5.heap.size < wr.heap.size:=hx.lt
        go_wp2_with fail
        go_region_held3 (fun w' =>(w'.cell? ⟨g,12,none⟩=some (.bool s2)∧w'.cell? ⟨g,13,none⟩=some (.slice A2 n2 c2)∧w'.cell? ⟨g,14,none⟩=some (.slice B2 m2 d2)∧w'.cell? ⟨g,15,none⟩=some (.bool t2)∧w'.cell? ⟨g,16,none⟩=some (.slice C2 i2 e2)∧w'.cell? ⟨g,17,none⟩=some (.slice D2 j2 f2))∧(w'.cell? ⟨g,6,none⟩=some (.bool s')∧w'.cell? ⟨g,7,none⟩=some (.slice A' n' c')∧w'.cell? ⟨g,8,none⟩=some (.slice B' m' d')∧w'.cell? ⟨g,9,none⟩=some (.bool t')∧w'.cell? ⟨g,10,none⟩=some (.slice C' i' e')∧w'.cell? ⟨g,11,none⟩=some (.slice D' j' f'))) (first | exact⟨⟨(Bl.cellOf (w:=w) (p:=⟨g,12,none⟩) slc hg).trans z0,(Bl.cellOf (w:=w) (p:=⟨g,13,none⟩) slc hg).trans z1,(Bl.cellOf (w:=w) (p:=⟨g,14,none⟩) slc hg).trans z2,(Bl.cellOf (w:=w) (p:=⟨g,15,none⟩) slc hg).trans z3,(Bl.cellOf (w:=w) (p:=⟨g,16,none⟩) slc hg).trans z4,(Bl.cellOf (w:=w) (p:=⟨g,17,none⟩) slc hg).trans z5⟩,⟨(Bl.cellOf (w:=w) (p:=⟨g,6,none⟩) slc hg).trans y0,(Bl.cellOf (w:=w) (p:=⟨g,7,none⟩) slc hg).trans y1,(Bl.cellOf (w:=w) (p:=⟨g,8,none⟩) slc hg).trans y2,(Bl.cellOf (w:=w) (p:=⟨g,9,none⟩) slc hg).trans y3,(Bl.cellOf (w:=w) (p:=⟨g,10,none⟩) slc hg).trans y4,(Bl.cellOf (w:=w) (p:=⟨g,11,none⟩) slc hg).trans y5⟩⟩) (first |(go_at_call 65;refine(SubtractPoints_any _ (hX2.bl slc) (hY2.bl slc) (hX1.bl slc) (hY1.bl slc)).mono ?_;rintro en w2 ⟨s3,A3,n3,c3,B3,m3,d3,t3,C3,i3,e3,D3,j3,f3,rfl,hP,hb2⟩;(first | have hq:Wk 6 76 _ _:=wk_newd hb2 | have hq:Wk 6 76 _ _:=wk_new hb2 | skip);(try obtain⟨⟨q0,q1,q2,q3,q4,q5⟩,fz0,fz1,fz2,fz3,fz4,fz5⟩:=hq.out6)))
        · skip
          go_wp2_with fail
          refine wp_gen (fun W=> Bl w W∧Blk W (w2.heap.size) 76 #[.bool s3,.slice A3 n3 c3,.slice B3 m3 d3,.bool t3,.slice C3 i3 e3,.slice D3 j3 f3]∧Blk W w5.heap.size 31 #[.bool s9,.slice A9 n9 c9,.slice B9 m9 d9]∧OwE 3 w5.heap.size W s9 A9 n9 c9 B9 m9 d9 (longF (ofFrac 0 1) p0 p1 p2 1)∧Wk 3 31 w.heap.size W∧RdR W s3 A3 n3 c3 B3 m3 d3 (subP p2 p1).x∧RdR W t3 C3 i3 e3 D3 j3 f3 (subP p2 p1).y) ⟨slc,Blk.new _ _ _,hx.bl slc,hO.bl slc,hr.bl slc,hP.rx.bl slc,hP.ry.bl slc⟩ ?_
          clear hP hb2 hbw hr hx hO
          rintro W ⟨hbW,hxs,hxl,hO,hr,hPx,hPy⟩
          have hHeld:(fun w' =>(w'.cell? ⟨w5.heap.size,0,none⟩=some (.bool s9)∧w'.cell? ⟨w5.heap.size,1,none⟩=some (.slice A9 n9 c9)∧w'.cell? ⟨w5.heap.size,2,none⟩=some (.slice B9 m9 d9))∧(w'.cell? ⟨w2.heap.size,0,none⟩=some (.bool s3)∧w'.cell? ⟨w2.heap.size,1,none⟩=some (.slice A3 n3 c3)∧w'.cell? ⟨w2.heap.size,2,none⟩=some (.slice B3 m3 d3)∧w'.cell? ⟨w2.heap.size,3,none⟩=some (.bool t3)∧w'.cell? ⟨w2.heap.size,4,none⟩=some (.slice C3 i3 e3)∧w'.cell? ⟨w2.heap.size,5,none⟩=some (.slice D3 j3 f3))) (W.drew):=⟨bx3 (T:=31) bts,bx6 (T:=76) bts⟩
          refine wp_region_T 5 6 (fun w' =>(w'.cell? ⟨w5.heap.size,0,none⟩=some (.bool s9)∧w'.cell? ⟨w5.heap.size,1,none⟩=some (.slice A9 n9 c9)∧w'.cell? ⟨w5.heap.size,2,none⟩=some (.slice B9 m9 d9))∧(w'.cell? ⟨w2.heap.size,0,none⟩=some (.bool s3)∧w'.cell? ⟨w2.heap.size,1,none⟩=some (.slice A3 n3 c3)∧w'.cell? ⟨w2.heap.size,2,none⟩=some (.slice B3 m3 d3)∧w'.cell? ⟨w2.heap.size,3,none⟩=some (.bool t3)∧w'.cell? ⟨w2.heap.size,4,none⟩=some (.slice C3 i3 e3)∧w'.cell? ⟨w2.heap.size,5,none⟩=some (.slice D3 j3 f3))) rfl (by kernel_rfl) hHeld ?_
          refine wpAnyT_take (i:=0) (oi:=_) (v:=?_) (fuel:=5) rfl (by kernel_rfl) (by kernel_rfl) (by kernel_rfl) (by kernel_rfl) (fun _ _ _ h=> h) (by rfl) ?_ hHeld ?_
          rotate_left 1
          · (intro w' hSw;(try dsimp only at hSw);go_simp <;> with_reducible rfl)
          refine wpAnyT_take (i:=1) (oi:=_) (v:=?_) (fuel:=4) rfl (by kernel_rfl) (by kernel_rfl) (by kernel_rfl) (by kernel_rfl) (fun _ _ _ h=> h) (by rfl) ?_ hHeld ?_
          rotate_left 1
          · (intro w' hSw;(try dsimp only at hSw);go_simp <;> with_reducible rfl)
          refine wpAnyT_take (i:=2) (oi:=_) (v:=?_) (fuel:=3) rfl (by kernel_rfl) (by kernel_rfl) (by kernel_rfl) (by kernel_rfl) (fun _ _ _ h=> h) (by rfl) ?_ hHeld ?_
          rotate_left 1
          · (intro w' hSw;(try dsimp only at hSw);go_simp <;> with_reducible rfl)
          clear hHeld
          simp only[Act.put,List.setIfInBounds_toArray]
          refine wpAnyT_step (i:=3) (o:=_) (fuel:=2) rfl (by kernel_rfl) (fun K hK=> ?_)
          go_simp
          refine(Inner_any _ (hPx.bl slc) (hPy.bl slc) (hPx.bl slc) (hPy.bl slc)).mono ?_
          rintro e w6 ⟨s4,A4,n4,c4,B4,m4,d4,rfl,hR4,hb6⟩
          refine hK.out _ _ (fun _ =>⟨bx3 (T:=31) bts,bx6 (T:=76) bts⟩) ?_
          clear hK K
          try simp only[Act.put,List.setIfInBounds_toArray,List.set_cons_zero,List.set_cons_succ]
          refine wpAnyT_step (i:=4) (o:=_) (fuel:=1) rfl (by kernel_rfl) (fun K hK=> ?_)
          go_simp
          refine(RatMax_any _ (hO.rd.bl slc) hR4.rd).mono ?_
          rintro e w7 ⟨s5,A5,n5,c5,B5,m5,d5,rfl,hR5,hb7⟩
          refine hK.out _ _ (fun _ =>⟨bx3 (T:=31) bts,bx6 (T:=76) bts⟩) ?_
          clear hK K
          try simp only[Act.put,List.setIfInBounds_toArray,List.set_cons_zero,List.set_cons_succ]
          have hx4:=(hxl.drew.bl hb6).bl hb7
          obtain⟨z0',z1',z2'⟩:=bx3 hx4
          obtain⟨y0',y1',y2'⟩:=hx4.fz3
          refine wpAnyT_step (i:=5) (o:=_) (fuel:=0) rfl (by kernel_rfl) (fun K hK=> ?_)
          go_simp
          refine hK.out _ _ (fun h=> absurd rfl h) ?_
          clear hK K
          try simp only[Act.put,List.setIfInBounds_toArray,List.set_cons_zero,List.set_cons_succ]
          refine wpAnyT_done (by kernel_rfl) ?_
          have hr4:=(hr.drew.bl hb6).bl hb7
          have hz6:w5.heap.size < w6.heap.size:=Nat.lt_of_lt_of_le hxl.drew.lt (Bl.size hb6)
          have hE:=OwQ.exc2 (OwQ.of hR5) hz6
          go_wp2_with fail
          go_roundw
          case rel=> exact⟨2,s5,A5,n5,c5,B5,m5,d5,by omega,rfl,(Wk.of hx4 rfl).put3 _ _ _,((hE.set _ _).set _ _).set _ _,((hr4.far (by simp;omega) _).far (by simp;omega) _).far (by simp;omega) _,slc⟩
          case measure=> simp[intOf]
        · skip
          go_wp2_with fail
          refine wp_gen (fun W=> Bl w W∧Blk W (wr.heap.size) 76 #[.bool s3,.slice A3 n3 c3,.slice B3 m3 d3,.bool t3,.slice C3 i3 e3,.slice D3 j3 f3]∧Blk W w5.heap.size 31 #[.bool s9,.slice A9 n9 c9,.slice B9 m9 d9]∧OwE 3 w5.heap.size W s9 A9 n9 c9 B9 m9 d9 (longF (ofFrac 0 1) p0 p1 p2 1)∧Wk 3 31 w.heap.size W∧RdR W s3 A3 n3 c3 B3 m3 d3 (subP p2 p1).x∧RdR W t3 C3 i3 e3 D3 j3 f3 (subP p2 p1).y) ⟨slc,Wk.put6 hq _ _ _ _ _ _,hx.bl slc,hO.bl slc,hr.bl slc,((((((hP.far (by simp) _).far (by simp) _).far (by simp) _).far (by simp) _).far (by simp) _).far (by simp) _).rx,((((((hP.far (by simp) _).far (by simp) _).far (by simp) _).far (by simp) _).far (by simp) _).far (by simp) _).ry⟩ ?_
          clear hP hb2 hbw hr hx hO
          rintro W ⟨hbW,hxs,hxl,hO,hr,hPx,hPy⟩
          have hHeld:(fun w' =>(w'.cell? ⟨w5.heap.size,0,none⟩=some (.bool s9)∧w'.cell? ⟨w5.heap.size,1,none⟩=some (.slice A9 n9 c9)∧w'.cell? ⟨w5.heap.size,2,none⟩=some (.slice B9 m9 d9))∧(w'.cell? ⟨wr.heap.size,0,none⟩=some (.bool s3)∧w'.cell? ⟨wr.heap.size,1,none⟩=some (.slice A3 n3 c3)∧w'.cell? ⟨wr.heap.size,2,none⟩=some (.slice B3 m3 d3)∧w'.cell? ⟨wr.heap.size,3,none⟩=some (.bool t3)∧w'.cell? ⟨wr.heap.size,4,none⟩=some (.slice C3 i3 e3)∧w'.cell? ⟨wr.heap.size,5,none⟩=some (.slice D3 j3 f3))) (W.drew):=⟨bx3 (T:=31) bts,bx6 (T:=76) bts⟩
          refine wp_region_T 5 6 (fun w' =>(w'.cell? ⟨w5.heap.size,0,none⟩=some (.bool s9)∧w'.cell? ⟨w5.heap.size,1,none⟩=some (.slice A9 n9 c9)∧w'.cell? ⟨w5.heap.size,2,none⟩=some (.slice B9 m9 d9))∧(w'.cell? ⟨wr.heap.size,0,none⟩=some (.bool s3)∧w'.cell? ⟨wr.heap.size,1,none⟩=some (.slice A3 n3 c3)∧w'.cell? ⟨wr.heap.size,2,none⟩=some (.slice B3 m3 d3)∧w'.cell? ⟨wr.heap.size,3,none⟩=some (.bool t3)∧w'.cell? ⟨wr.heap.size,4,none⟩=some (.slice C3 i3 e3)∧w'.cell? ⟨wr.heap.size,5,none⟩=some (.slice D3 j3 f3))) rfl (by kernel_rfl) hHeld ?_
          refine wpAnyT_take (i:=0) (oi:=_) (v:=?_) (fuel:=5) rfl (by kernel_rfl) (by kernel_rfl) (by kernel_rfl) (by kernel_rfl) (fun _ _ _ h=> h) (by rfl) ?_ hHeld ?_
          rotate_left 1
          · (intro w' hSw;(try dsimp only at hSw);go_simp <;> with_reducible rfl)
          refine wpAnyT_take (i:=1) (oi:=_) (v:=?_) (fuel:=4) rfl (by kernel_rfl) (by kernel_rfl) (by kernel_rfl) (by kernel_rfl) (fun _ _ _ h=> h) (by rfl) ?_ hHeld ?_
          rotate_left 1
          · (intro w' hSw;(try dsimp only at hSw);go_simp <;> with_reducible rfl)
          refine wpAnyT_take (i:=2) (oi:=_) (v:=?_) (fuel:=3) rfl (by kernel_rfl) (by kernel_rfl) (by kernel_rfl) (by kernel_rfl) (fun _ _ _ h=> h) (by rfl) ?_ hHeld ?_
          rotate_left 1
          · (intro w' hSw;(try dsimp only at hSw);go_simp <;> with_reducible rfl)
          clear hHeld
          simp only[Act.put,List.setIfInBounds_toArray]
          refine wpAnyT_step (i:=3) (o:=_) (fuel:=2) rfl (by kernel_rfl) (fun K hK=> ?_)
          go_simp
          refine(Inner_any _ (hPx.bl slc) (hPy.bl slc) (hPx.bl slc) (hPy.bl slc)).mono ?_
          rintro e w6 ⟨s4,A4,n4,c4,B4,m4,d4,rfl,hR4,hb6⟩
          refine hK.out _ _ (fun _ =>⟨bx3 (T:=31) bts,bx6 (T:=76) bts⟩) ?_
          clear hK K
          try simp only[Act.put,List.setIfInBounds_toArray,List.set_cons_zero,List.set_cons_succ]
          refine wpAnyT_step (i:=4) (o:=_) (fuel:=1) rfl (by kernel_rfl) (fun K hK=> ?_)
          go_simp
          refine(RatMax_any _ (hO.rd.bl slc) hR4.rd).mono ?_
          rintro e w7 ⟨s5,A5,n5,c5,B5,m5,d5,rfl,hR5,hb7⟩
          refine hK.out _ _ (fun _ =>⟨bx3 (T:=31) bts,bx6 (T:=76) bts⟩) ?_
          clear hK K
          try simp only[Act.put,List.setIfInBounds_toArray,List.set_cons_zero,List.set_cons_succ]
          have hx4:=(hxl.drew.bl hb6).bl hb7
          obtain⟨z0',z1',z2'⟩:=bx3 hx4
          obtain⟨y0',y1',y2'⟩:=hx4.fz3
          refine wpAnyT_step (i:=5) (o:=_) (fuel:=0) rfl (by kernel_rfl) (fun K hK=> ?_)
          go_simp
          refine hK.out _ _ (fun h=> absurd rfl h) ?_
          clear hK K
          try simp only[Act.put,List.setIfInBounds_toArray,List.set_cons_zero,List.set_cons_succ]
          refine wpAnyT_done (by kernel_rfl) ?_
          have hr4:=(hr.drew.bl hb6).bl hb7
          have hz6:w5.heap.size < w6.heap.size:=Nat.lt_of_lt_of_le hxl.drew.lt (Bl.size hb6)
          have hE:=OwQ.exc2 (OwQ.of hR5) hz6
          go_wp2_with fail
          go_roundw
          case rel=> exact⟨2,s5,A5,n5,c5,B5,m5,d5,by omega,rfl,(Wk.of hx4 rfl).put3 _ _ _,((hE.set _ _).set _ _).set _ _,((hr4.far (by simp;omega) _).far (by simp;omega) _).far (by simp;omega) _,slc⟩
          case measure=> simp[intOf]
      · skip
        have e0:((2:Nat):Int)=2:=rfl
        rw[e0]
        clear e0 hk
        have hw:IntKind.i64.wrap 3=3:=by rfl
        have hgl:w5.heap.size < wr.heap.size:=hx.lt
        go_wp2_with fail
        go_region_held3 (fun w' =>(w'.cell? ⟨g,0,none⟩=some (.bool s)∧w'.cell? ⟨g,1,none⟩=some (.slice A n c)∧w'.cell? ⟨g,2,none⟩=some (.slice B m d)∧w'.cell? ⟨g,3,none⟩=some (.bool t)∧w'.cell? ⟨g,4,none⟩=some (.slice C i e)∧w'.cell? ⟨g,5,none⟩=some (.slice D j f))∧(w'.cell? ⟨g,12,none⟩=some (.bool s2)∧w'.cell? ⟨g,13,none⟩=some (.slice A2 n2 c2)∧w'.cell? ⟨g,14,none⟩=some (.slice B2 m2 d2)∧w'.cell? ⟨g,15,none⟩=some (.bool t2)∧w'.cell? ⟨g,16,none⟩=some (.slice C2 i2 e2)∧w'.cell? ⟨g,17,none⟩=some (.slice D2 j2 f2))) (first | exact⟨⟨(Bl.cellOf (w:=w) (p:=⟨g,0,none⟩) slc hg).trans x0,(Bl.cellOf (w:=w) (p:=⟨g,1,none⟩) slc hg).trans x1,(Bl.cellOf (w:=w) (p:=⟨g,2,none⟩) slc hg).trans x2,(Bl.cellOf (w:=w) (p:=⟨g,3,none⟩) slc hg).trans x3,(Bl.cellOf (w:=w) (p:=⟨g,4,none⟩) slc hg).trans x4,(Bl.cellOf (w:=w) (p:=⟨g,5,none⟩) slc hg).trans x5⟩,⟨(Bl.cellOf (w:=w) (p:=⟨g,12,none⟩) slc hg).trans z0,(Bl.cellOf (w:=w) (p:=⟨g,13,none⟩) slc hg).trans z1,(Bl.cellOf (w:=w) (p:=⟨g,14,none⟩) slc hg).trans z2,(Bl.cellOf (w:=w) (p:=⟨g,15,none⟩) slc hg).trans z3,(Bl.cellOf (w:=w) (p:=⟨g,16,none⟩) slc hg).trans z4,(Bl.cellOf (w:=w) (p:=⟨g,17,none⟩) slc hg).trans z5⟩⟩) (first |(go_at_call 65;refine(SubtractPoints_any _ (hX0.bl slc) (hY0.bl slc) (hX2.bl slc) (hY2.bl slc)).mono ?_;rintro en w2 ⟨s3,A3,n3,c3,B3,m3,d3,t3,C3,i3,e3,D3,j3,f3,rfl,hP,hb2⟩;(first | have hq:Wk 6 76 _ _:=wk_newd hb2 | have hq:Wk 6 76 _ _:=wk_new hb2 | skip);(try obtain⟨⟨q0,q1,q2,q3,q4,q5⟩,fz0,fz1,fz2,fz3,fz4,fz5⟩:=hq.out6)))
        · skip
          go_wp2_with fail
          refine wp_gen (fun W=> Bl w W∧Blk W (w2.heap.size) 76 #[.bool s3,.slice A3 n3 c3,.slice B3 m3 d3,.bool t3,.slice C3 i3 e3,.slice D3 j3 f3]∧Blk W w5.heap.size 31 #[.bool s9,.slice A9 n9 c9,.slice B9 m9 d9]∧OwE 3 w5.heap.size W s9 A9 n9 c9 B9 m9 d9 (longF (ofFrac 0 1) p0 p1 p2 2)∧Wk 3 31 w.heap.size W∧RdR W s3 A3 n3 c3 B3 m3 d3 (subP p0 p2).x∧RdR W t3 C3 i3 e3 D3 j3 f3 (subP p0 p2).y) ⟨slc,Blk.new _ _ _,hx.bl slc,hO.bl slc,hr.bl slc,hP.rx.bl slc,hP.ry.bl slc⟩ ?_
          clear hP hb2 hbw hr hx hO
          rintro W ⟨hbW,hxs,hxl,hO,hr,hPx,hPy⟩
          have hHeld:(fun w' =>(w'.cell? ⟨w5.heap.size,0,none⟩=some (.bool s9)∧w'.cell? ⟨w5.heap.size,1,none⟩=some (.slice A9 n9 c9)∧w'.cell? ⟨w5.heap.size,2,none⟩=some (.slice B9 m9 d9))∧(w'.cell? ⟨w2.heap.size,0,none⟩=some (.bool s3)∧w'.cell? ⟨w2.heap.size,1,none⟩=some (.slice A3 n3 c3)∧w'.cell? ⟨w2.heap.size,2,none⟩=some (.slice B3 m3 d3)∧w'.cell? ⟨w2.heap.size,3,none⟩=some (.bool t3)∧w'.cell? ⟨w2.heap.size,4,none⟩=some (.slice C3 i3 e3)∧w'.cell? ⟨w2.heap.size,5,none⟩=some (.slice D3 j3 f3))) (W.drew):=⟨bx3 (T:=31) bts,bx6 (T:=76) bts⟩
          refine wp_region_T 5 6 (fun w' =>(w'.cell? ⟨w5.heap.size,0,none⟩=some (.bool s9)∧w'.cell? ⟨w5.heap.size,1,none⟩=some (.slice A9 n9 c9)∧w'.cell? ⟨w5.heap.size,2,none⟩=some (.slice B9 m9 d9))∧(w'.cell? ⟨w2.heap.size,0,none⟩=some (.bool s3)∧w'.cell? ⟨w2.heap.size,1,none⟩=some (.slice A3 n3 c3)∧w'.cell? ⟨w2.heap.size,2,none⟩=some (.slice B3 m3 d3)∧w'.cell? ⟨w2.heap.size,3,none⟩=some (.bool t3)∧w'.cell? ⟨w2.heap.size,4,none⟩=some (.slice C3 i3 e3)∧w'.cell? ⟨w2.heap.size,5,none⟩=some (.slice D3 j3 f3))) rfl (by kernel_rfl) hHeld ?_
          refine wpAnyT_take (i:=0) (oi:=_) (v:=?_) (fuel:=5) rfl (by kernel_rfl) (by kernel_rfl) (by kernel_rfl) (by kernel_rfl) (fun _ _ _ h=> h) (by rfl) ?_ hHeld ?_
          rotate_left 1
          · (intro w' hSw;(try dsimp only at hSw);go_simp <;> with_reducible rfl)
          refine wpAnyT_take (i:=1) (oi:=_) (v:=?_) (fuel:=4) rfl (by kernel_rfl) (by kernel_rfl) (by kernel_rfl) (by kernel_rfl) (fun _ _ _ h=> h) (by rfl) ?_ hHeld ?_
          rotate_left 1
          · (intro w' hSw;(try dsimp only at hSw);go_simp <;> with_reducible rfl)
          refine wpAnyT_take (i:=2) (oi:=_) (v:=?_) (fuel:=3) rfl (by kernel_rfl) (by kernel_rfl) (by kernel_rfl) (by kernel_rfl) (fun _ _ _ h=> h) (by rfl) ?_ hHeld ?_
          rotate_left 1
          · (intro w' hSw;(try dsimp only at hSw);go_simp <;> with_reducible rfl)
          clear hHeld
          simp only[Act.put,List.setIfInBounds_toArray]
          refine wpAnyT_step (i:=3) (o:=_) (fuel:=2) rfl (by kernel_rfl) (fun K hK=> ?_)
          go_simp
          refine(Inner_any _ (hPx.bl slc) (hPy.bl slc) (hPx.bl slc) (hPy.bl slc)).mono ?_
          rintro e w6 ⟨s4,A4,n4,c4,B4,m4,d4,rfl,hR4,hb6⟩
          refine hK.out _ _ (fun _ =>⟨bx3 (T:=31) bts,bx6 (T:=76) bts⟩) ?_
          clear hK K
          try simp only[Act.put,List.setIfInBounds_toArray,List.set_cons_zero,List.set_cons_succ]
          refine wpAnyT_step (i:=4) (o:=_) (fuel:=1) rfl (by kernel_rfl) (fun K hK=> ?_)
          go_simp
          refine(RatMax_any _ (hO.rd.bl slc) hR4.rd).mono ?_
          rintro e w7 ⟨s5,A5,n5,c5,B5,m5,d5,rfl,hR5,hb7⟩
          refine hK.out _ _ (fun _ =>⟨bx3 (T:=31) bts,bx6 (T:=76) bts⟩) ?_
          clear hK K
          try simp only[Act.put,List.setIfInBounds_toArray,List.set_cons_zero,List.set_cons_succ]
          have hx4:=(hxl.drew.bl hb6).bl hb7
          obtain⟨z0',z1',z2'⟩:=bx3 hx4
          obtain⟨y0',y1',y2'⟩:=hx4.fz3
          refine wpAnyT_step (i:=5) (o:=_) (fuel:=0) rfl (by kernel_rfl) (fun K hK=> ?_)
          go_simp
          refine hK.out _ _ (fun h=> absurd rfl h) ?_
          clear hK K
          try simp only[Act.put,List.setIfInBounds_toArray,List.set_cons_zero,List.set_cons_succ]
          refine wpAnyT_done (by kernel_rfl) ?_
          have hr4:=(hr.drew.bl hb6).bl hb7
          have hz6:w5.heap.size < w6.heap.size:=Nat.lt_of_lt_of_le hxl.drew.lt (Bl.size hb6)
          have hE:=OwQ.exc2 (OwQ.of hR5) hz6
          go_wp2_with fail
          go_roundw
          case rel=> exact⟨3,s5,A5,n5,c5,B5,m5,d5,by omega,rfl,(Wk.of hx4 rfl).put3 _ _ _,((hE.set _ _).set _ _).set _ _,((hr4.far (by simp;omega) _).far (by simp;omega) _).far (by simp;omega) _,slc⟩
          case measure=> simp[intOf]
        · skip
          go_wp2_with fail
          refine wp_gen (fun W=> Bl w W∧Blk W (wr.heap.size) 76 #[.bool s3,.slice A3 n3 c3,.slice B3 m3 d3,.bool t3,.slice C3 i3 e3,.slice D3 j3 f3]∧Blk W w5.heap.size 31 #[.bool s9,.slice A9 n9 c9,.slice B9 m9 d9]∧OwE 3 w5.heap.size W s9 A9 n9 c9 B9 m9 d9 (longF (ofFrac 0 1) p0 p1 p2 2)∧Wk 3 31 w.heap.size W∧RdR W s3 A3 n3 c3 B3 m3 d3 (subP p0 p2).x∧RdR W t3 C3 i3 e3 D3 j3 f3 (subP p0 p2).y) ⟨slc,Wk.put6 hq _ _ _ _ _ _,hx.bl slc,hO.bl slc,hr.bl slc,((((((hP.far (by simp) _).far (by simp) _).far (by simp) _).far (by simp) _).far (by simp) _).far (by simp) _).rx,((((((hP.far (by simp) _).far (by simp) _).far (by simp) _).far (by simp) _).far (by simp) _).far (by simp) _).ry⟩ ?_
          clear hP hb2 hbw hr hx hO
          rintro W ⟨hbW,hxs,hxl,hO,hr,hPx,hPy⟩
          have hHeld:(fun w' =>(w'.cell? ⟨w5.heap.size,0,none⟩=some (.bool s9)∧w'.cell? ⟨w5.heap.size,1,none⟩=some (.slice A9 n9 c9)∧w'.cell? ⟨w5.heap.size,2,none⟩=some (.slice B9 m9 d9))∧(w'.cell? ⟨wr.heap.size,0,none⟩=some (.bool s3)∧w'.cell? ⟨wr.heap.size,1,none⟩=some (.slice A3 n3 c3)∧w'.cell? ⟨wr.heap.size,2,none⟩=some (.slice B3 m3 d3)∧w'.cell? ⟨wr.heap.size,3,none⟩=some (.bool t3)∧w'.cell? ⟨wr.heap.size,4,none⟩=some (.slice C3 i3 e3)∧w'.cell? ⟨wr.heap.size,5,none⟩=some (.slice D3 j3 f3))) (W.drew):=⟨bx3 (T:=31) bts,bx6 (T:=76) bts⟩
          refine wp_region_T 5 6 (fun w' =>(w'.cell? ⟨w5.heap.size,0,none⟩=some (.bool s9)∧w'.cell? ⟨w5.heap.size,1,none⟩=some (.slice A9 n9 c9)∧w'.cell? ⟨w5.heap.size,2,none⟩=some (.slice B9 m9 d9))∧(w'.cell? ⟨wr.heap.size,0,none⟩=some (.bool s3)∧w'.cell? ⟨wr.heap.size,1,none⟩=some (.slice A3 n3 c3)∧w'.cell? ⟨wr.heap.size,2,none⟩=some (.slice B3 m3 d3)∧w'.cell? ⟨wr.heap.size,3,none⟩=some (.bool t3)∧w'.cell? ⟨wr.heap.size,4,none⟩=some (.slice C3 i3 e3)∧w'.cell? ⟨wr.heap.size,5,none⟩=some (.slice D3 j3 f3))) rfl (by kernel_rfl) hHeld ?_
          refine wpAnyT_take (i:=0) (oi:=_) (v:=?_) (fuel:=5) rfl (by kernel_rfl) (by kernel_rfl) (by kernel_rfl) (by kernel_rfl) (fun _ _ _ h=> h) (by rfl) ?_ hHeld ?_
          rotate_left 1
          · (intro w' hSw;(try dsimp only at hSw);go_simp <;> with_reducible rfl)
          refine wpAnyT_take (i:=1) (oi:=_) (v:=?_) (fuel:=4) rfl (by kernel_rfl) (by kernel_rfl) (by kernel_rfl) (by kernel_rfl) (fun _ _ _ h=> h) (by rfl) ?_ hHeld ?_
          rotate_left 1
          · (intro w' hSw;(try dsimp only at hSw);go_simp <;> with_reducible rfl)
          refine wpAnyT_take (i:=2) (oi:=_) (v:=?_) (fuel:=3) rfl (by kernel_rfl) (by kernel_rfl) (by kernel_rfl) (by kernel_rfl) (fun _ _ _ h=> h) (by rfl) ?_ hHeld ?_
          rotate_left 1
          · (intro w' hSw;(try dsimp only at hSw);go_simp <;> with_reducible rfl)
          clear hHeld
          simp only[Act.put,List.setIfInBounds_toArray]
          refine wpAnyT_step (i:=3) (o:=_) (fuel:=2) rfl (by kernel_rfl) (fun K hK=> ?_)
          go_simp
          refine(Inner_any _ (hPx.bl slc) (hPy.bl slc) (hPx.bl slc) (hPy.bl slc)).mono ?_
          rintro e w6 ⟨s4,A4,n4,c4,B4,m4,d4,rfl,hR4,hb6⟩
          refine hK.out _ _ (fun _ =>⟨bx3 (T:=31) bts,bx6 (T:=76) bts⟩) ?_
          clear hK K
          try simp only[Act.put,List.setIfInBounds_toArray,List.set_cons_zero,List.set_cons_succ]
          refine wpAnyT_step (i:=4) (o:=_) (fuel:=1) rfl (by kernel_rfl) (fun K hK=> ?_)
          go_simp
          refine(RatMax_any _ (hO.rd.bl slc) hR4.rd).mono ?_
          rintro e w7 ⟨s5,A5,n5,c5,B5,m5,d5,rfl,hR5,hb7⟩
          refine hK.out _ _ (fun _ =>⟨bx3 (T:=31) bts,bx6 (T:=76) bts⟩) ?_
          clear hK K
          try simp only[Act.put,List.setIfInBounds_toArray,List.set_cons_zero,List.set_cons_succ]
          have hx4:=(hxl.drew.bl hb6).bl hb7
          obtain⟨z0',z1',z2'⟩:=bx3 hx4
          obtain⟨y0',y1',y2'⟩:=hx4.fz3
          refine wpAnyT_step (i:=5) (o:=_) (fuel:=0) rfl (by kernel_rfl) (fun K hK=> ?_)
          go_simp
          refine hK.out _ _ (fun h=> absurd rfl h) ?_
          clear hK K
          try simp only[Act.put,List.setIfInBounds_toArray,List.set_cons_zero,List.set_cons_succ]
          refine wpAnyT_done (by kernel_rfl) ?_
          have hr4:=(hr.drew.bl hb6).bl hb7
          have hz6:w5.heap.size < w6.heap.size:=Nat.lt_of_lt_of_le hxl.drew.lt (Bl.size hb6)
          have hE:=OwQ.exc2 (OwQ.of hR5) hz6
          go_wp2_with fail
          go_roundw
          case rel=> exact⟨3,s5,A5,n5,c5,B5,m5,d5,by omega,rfl,(Wk.of hx4 rfl).put3 _ _ _,((hE.set _ _).set _ _).set _ _,((hr4.far (by simp;omega) _).far (by simp;omega) _).far (by simp;omega) _,slc⟩
          case measure=> simp[intOf]
      · skip
        have e0:((3:Nat):Int)=3:=rfl
        rw[e0]
        clear e0 hk
        go_wp2_with fail
        refine wp_gen (fun W=> Bl w W∧Blk W w5.heap.size 31 #[.bool s9,.slice A9 n9 c9,.slice B9 m9 d9]∧RdR W s9 A9 n9 c9 B9 m9 d9 (longF (ofFrac 0 1) p0 p1 p2 3)∧Wk 3 31 w.heap.size W) ⟨hbw,hx,hO.rd,hr⟩ ?_
        clear hbw hx hO hr
        rintro W ⟨hbW,hx,hO,hr⟩
        go_region_held3 (fun w' =>(w'.cell? ⟨g,0,none⟩=some (.bool s)∧w'.cell? ⟨g,1,none⟩=some (.slice A n c)∧w'.cell? ⟨g,2,none⟩=some (.slice B m d)∧w'.cell? ⟨g,3,none⟩=some (.bool t)∧w'.cell? ⟨g,4,none⟩=some (.slice C i e)∧w'.cell? ⟨g,5,none⟩=some (.slice D j f))∧(w'.cell? ⟨g,6,none⟩=some (.bool s')∧w'.cell? ⟨g,7,none⟩=some (.slice A' n' c')∧w'.cell? ⟨g,8,none⟩=some (.slice B' m' d')∧w'.cell? ⟨g,9,none⟩=some (.bool t')∧w'.cell? ⟨g,10,none⟩=some (.slice C' i' e')∧w'.cell? ⟨g,11,none⟩=some (.slice D' j' f'))∧(w'.cell? ⟨g,12,none⟩=some (.bool s2)∧w'.cell? ⟨g,13,none⟩=some (.slice A2 n2 c2)∧w'.cell? ⟨g,14,none⟩=some (.slice B2 m2 d2)∧w'.cell? ⟨g,15,none⟩=some (.bool t2)∧w'.cell? ⟨g,16,none⟩=some (.slice C2 i2 e2)∧w'.cell? ⟨g,17,none⟩=some (.slice D2 j2 f2))∧(w'.cell? ⟨w5.heap.size,0,none⟩=some (.bool s9)∧w'.cell? ⟨w5.heap.size,1,none⟩=some (.slice A9 n9 c9)∧w'.cell? ⟨w5.heap.size,2,none⟩=some (.slice B9 m9 d9))∧(w'.cell? ⟨w.heap.size,0,none⟩=some (cellD w' (w.heap.size) 0)∧w'.cell? ⟨w.heap.size,1,none⟩=some (cellD w' (w.heap.size) 1)∧w'.cell? ⟨w.heap.size,2,none⟩=some (cellD w' (w.heap.size) 2))∧w'.frozen? ⟨w.heap.size,0,none⟩=false∧w'.frozen? ⟨w.heap.size,1,none⟩=false∧w'.frozen? ⟨w.heap.size,2,none⟩=false) (first | exact⟨⟨(Bl.cellOf (w:=w) (p:=⟨g,0,none⟩) slc hg).trans x0,(Bl.cellOf (w:=w) (p:=⟨g,1,none⟩) slc hg).trans x1,(Bl.cellOf (w:=w) (p:=⟨g,2,none⟩) slc hg).trans x2,(Bl.cellOf (w:=w) (p:=⟨g,3,none⟩) slc hg).trans x3,(Bl.cellOf (w:=w) (p:=⟨g,4,none⟩) slc hg).trans x4,(Bl.cellOf (w:=w) (p:=⟨g,5,none⟩) slc hg).trans x5⟩,⟨(Bl.cellOf (w:=w) (p:=⟨g,6,none⟩) slc hg).trans y0,(Bl.cellOf (w:=w) (p:=⟨g,7,none⟩) slc hg).trans y1,(Bl.cellOf (w:=w) (p:=⟨g,8,none⟩) slc hg).trans y2,(Bl.cellOf (w:=w) (p:=⟨g,9,none⟩) slc hg).trans y3,(Bl.cellOf (w:=w) (p:=⟨g,10,none⟩) slc hg).trans y4,(Bl.cellOf (w:=w) (p:=⟨g,11,none⟩) slc hg).trans y5⟩,⟨(Bl.cellOf (w:=w) (p:=⟨g,12,none⟩) slc hg).trans z0,(Bl.cellOf (w:=w) (p:=⟨g,13,none⟩) slc hg).trans z1,(Bl.cellOf (w:=w) (p:=⟨g,14,none⟩) slc hg).trans z2,(Bl.cellOf (w:=w) (p:=⟨g,15,none⟩) slc hg).trans z3,(Bl.cellOf (w:=w) (p:=⟨g,16,none⟩) slc hg).trans z4,(Bl.cellOf (w:=w) (p:=⟨g,17,none⟩) slc hg).trans z5⟩,bx3 (T:=31) bts,Wk.out3 (T:=31) bts⟩) (first |(go_at_call 69;refine(DoubleArea_any _ (hX0.bl slc) (hY0.bl slc) (hX1.bl slc) (hY1.bl slc) (hX2.bl slc) (hY2.bl slc)).mono ?_;rintro en w3 ⟨s3,A3,n3,c3,B3,m3,d3,rfl,hR3,hb3⟩) |(go_at_call 68;refine(RatDiv_any _ hR3.rd (hO.bl slc)).mono ?_;rintro en w4 ⟨s1,A1,n1,c1,B1,m1,d1,rfl,hR,hb4⟩))
        have hz:w.heap.size+1≤W.heap.size:=hr.lt
        have hz3:W.heap.size≤w3.heap.size:=(Bl.size hb3:W.drew.heap.size≤_)
        have hr:=(show Wk 3 31 (w.heap.size) w4 from bts)
        have hbW:Bl w w4:=slc
        have hR:OwR 3 (w.heap.size+1) w4 s1 A1 n1 c1 B1 m1 d1 (shapeR p0 p1 p2):=by
          unfold shapeR
          rw[← long_same]
          exact hR.mono (show w.heap.size+1≤w3.heap.size by omega)
        obtain⟨v0,x0⟩:=hr.val_ (i:=0) (by omega)
        obtain⟨v1,x1⟩:=hr.val_ (i:=1) (by omega)
        obtain⟨v2,x2⟩:=hr.val_ (i:=2) (by omega)
        have hg:=hr.lt
        obtain⟨cs4,hB4,hc4⟩:=hr
        have hf0:=hB4.frozen 0
        have hf1:=hB4.frozen 1
        have hf2:=hB4.frozen 2
        go_wp2_with fail
        exact bodyPost_ret (v:=.agg #[.bool s1,.slice A1 n1 c1,.slice B1 m1 d1]) (by simp[results,Tryz.results22,go_sem,x0,x1,x2]) rfl ⟨_,_,_,_,_,_,_,rfl,(((hR.far (by simp) _).far (by simp) _).far (by simp) _).mono (by omega),slc⟩
  · have hval:=Lib.hid (show shapeL l=zR by unfold shapeL;rw[if_neg hp])
    have hp:=Lib.hid (Bool.eq_false_iff.2 hp);rename_i h_;clear h_
    go_enter Tryz.func22,Tryz.ntmps22
    go_wp2_with fail
    refine calls_gen (fun W=> Bl w W∧Wk 3 31 (w.heap.size) W) ⟨slc,bts⟩ ?_
    rintro W ⟨hbW,hr⟩
    refine(IsProper_any _ (RdPS.bl h hbW)).mono ?_
    rw[hp.out]
    rintro e w1 ⟨rfl,hb1⟩
    have hz0:w.heap.size < W.heap.size:=hr.lt
    have hr:=hr.bl hb1
    have hbW:=hbW.next hb1
    clear hb1
    obtain⟨v0,x0⟩:=hr.val_ (i:=0) (by omega)
    obtain⟨v1,x1⟩:=hr.val_ (i:=1) (by omega)
    obtain⟨v2,x2⟩:=hr.val_ (i:=2) (by omega)
    have hg:=hr.lt
    obtain⟨cs4,hB4,hc4⟩:=hr
    have hf0:=hB4.frozen 0
    have hf1:=hB4.frozen 1
    have hf2:=hB4.frozen 2
    go_wp2_with fail
    exact bodyPost_ret (v:=.agg #[.bool false,.slice none 0 0,.slice none 0 0]) (by simp[results,Tryz.results22,go_sem,x0,x1,x2]) rfl ⟨_,_,_,_,_,_,_,rfl,by rw[hval.out];exact OwR.zero _ _ _,slc⟩
end

end Go.Proofs.YtjaapemopbbfaaaGreat
