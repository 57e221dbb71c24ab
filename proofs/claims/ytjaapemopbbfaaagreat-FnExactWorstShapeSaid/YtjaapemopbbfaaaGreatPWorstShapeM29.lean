/- Lemmas. -/
import Derived.Test.YtjaapemopbbfaaaGreatRows
import Derived.Test.YtjaapemopbbfaaaGreatPWorstShapeM28
import Derived.Test.YtjaapemopbbfaaaGreatPWorstShapeM27
import Derived.Deep.Cut
namespace Go.Proofs.YtjaapemopbbfaaaGreat
section
open Go.RowKit

theorem sgn_pos_ok {r:RatD}(h:0 < sgnR r):OkR r:=by
  unfold sgnR at h
  split at h
  · assumption
  · omega

set_option maxRecDepth 100000 in
set_option maxHeartbeats 8000000 in
theorem sIsProper_0 (w:World) {g c0:Nat}{p0 p1 p2:PtD}(h:RdPS w (some ⟨g,0,none⟩) 3 c0 [p0,p1,p2]) (v0:Hid (¬ OkP p0)) (hv:Hid (propB [p0,p1,p2]=false)) :
    Calls Tryz.prog 38 #[.slice (some ⟨g,0,none⟩) 3 c0] w fun e w'=> e=.returned (.bool (propB [p0,p1,p2]))∧Bl w w':=by
  obtain⟨_,e0,hg,hc0⟩:=h.cells 0 (by omega)
  cases e0
  rw[Addr.add_lit] at hc0
  obtain⟨s,A,n,c,B,m,d,t,C,i,e,D,j,f,⟨x0,x1,x2,x3,x4,x5⟩,hX0,hY0⟩:=(show PtAt w ⟨g,0,none⟩ p0 from hc0)
  have x0:w.cell? ⟨g,0,none⟩=some (.bool s):=x0
  have x1:w.cell? ⟨g,1,none⟩=some (.slice A n c):=x1
  have x2:w.cell? ⟨g,2,none⟩=some (.slice B m d):=x2
  have x3:w.cell? ⟨g,3,none⟩=some (.bool t):=x3
  have x4:w.cell? ⟨g,4,none⟩=some (.slice C i e):=x4
  have x5:w.cell? ⟨g,5,none⟩=some (.slice D j f):=x5
  obtain⟨_,e0,hg,hc1⟩:=h.cells 1 (by omega)
  cases e0
  rw[Addr.add_lit] at hc1
  obtain⟨s',A',n',c',B',m',d',t',C',i',e',D',j',f',⟨y0,y1,y2,y3,y4,y5⟩,hX1,hY1⟩:=(show PtAt w ⟨g,6,none⟩ p1 from hc1)
  have y0:w.cell? ⟨g,6,none⟩=some (.bool s'):=y0
  have y1:w.cell? ⟨g,7,none⟩=some (.slice A' n' c'):=y1
  have y2:w.cell? ⟨g,8,none⟩=some (.slice B' m' d'):=y2
  have y3:w.cell? ⟨g,9,none⟩=some (.bool t'):=y3
  have y4:w.cell? ⟨g,10,none⟩=some (.slice C' i' e'):=y4
  have y5:w.cell? ⟨g,11,none⟩=some (.slice D' j' f'):=y5
  obtain⟨_,e0,hg,hc2⟩:=h.cells 2 (by omega)
  cases e0
  rw[Addr.add_lit] at hc2
  obtain⟨s2,A2,n2,c2,B2,m2,d2,t2,C2,i2,e2,D2,j2,f2,⟨z0,z1,z2,z3,z4,z5⟩,hX2,hY2⟩:=(show PtAt w ⟨g,12,none⟩ p2 from hc2)
  have z0:w.cell? ⟨g,12,none⟩=some (.bool s2):=z0
  have z1:w.cell? ⟨g,13,none⟩=some (.slice A2 n2 c2):=z1
  have z2:w.cell? ⟨g,14,none⟩=some (.slice B2 m2 d2):=z2
  have z3:w.cell? ⟨g,15,none⟩=some (.bool t2):=z3
  have z4:w.cell? ⟨g,16,none⟩=some (.slice C2 i2 e2):=z4
  have z5:w.cell? ⟨g,17,none⟩=some (.slice D2 j2 f2):=z5
  clear hc0 hc1 hc2
  go_enter Tryz.func38,Tryz.ntmps38
  go_wp2_with fail
  go_region_held3 (fun w' =>(w'.cell? ⟨g,0,none⟩=some (.bool s)∧w'.cell? ⟨g,1,none⟩=some (.slice A n c)∧w'.cell? ⟨g,2,none⟩=some (.slice B m d)∧w'.cell? ⟨g,3,none⟩=some (.bool t)∧w'.cell? ⟨g,4,none⟩=some (.slice C i e)∧w'.cell? ⟨g,5,none⟩=some (.slice D j f))∧(w'.cell? ⟨g,6,none⟩=some (.bool s')∧w'.cell? ⟨g,7,none⟩=some (.slice A' n' c')∧w'.cell? ⟨g,8,none⟩=some (.slice B' m' d')∧w'.cell? ⟨g,9,none⟩=some (.bool t')∧w'.cell? ⟨g,10,none⟩=some (.slice C' i' e')∧w'.cell? ⟨g,11,none⟩=some (.slice D' j' f'))∧(w'.cell? ⟨g,12,none⟩=some (.bool s2)∧w'.cell? ⟨g,13,none⟩=some (.slice A2 n2 c2)∧w'.cell? ⟨g,14,none⟩=some (.slice B2 m2 d2)∧w'.cell? ⟨g,15,none⟩=some (.bool t2)∧w'.cell? ⟨g,16,none⟩=some (.slice C2 i2 e2)∧w'.cell? ⟨g,17,none⟩=some (.slice D2 j2 f2))) (first | exact⟨⟨(Bl.cellOf (w:=w) (p:=⟨g,0,none⟩) slc hg).trans x0,(Bl.cellOf (w:=w) (p:=⟨g,1,none⟩) slc hg).trans x1,(Bl.cellOf (w:=w) (p:=⟨g,2,none⟩) slc hg).trans x2,(Bl.cellOf (w:=w) (p:=⟨g,3,none⟩) slc hg).trans x3,(Bl.cellOf (w:=w) (p:=⟨g,4,none⟩) slc hg).trans x4,(Bl.cellOf (w:=w) (p:=⟨g,5,none⟩) slc hg).trans x5⟩,⟨(Bl.cellOf (w:=w) (p:=⟨g,6,none⟩) slc hg).trans y0,(Bl.cellOf (w:=w) (p:=⟨g,7,none⟩) slc hg).trans y1,(Bl.cellOf (w:=w) (p:=⟨g,8,none⟩) slc hg).trans y2,(Bl.cellOf (w:=w) (p:=⟨g,9,none⟩) slc hg).trans y3,(Bl.cellOf (w:=w) (p:=⟨g,10,none⟩) slc hg).trans y4,(Bl.cellOf (w:=w) (p:=⟨g,11,none⟩) slc hg).trans y5⟩,⟨(Bl.cellOf (w:=w) (p:=⟨g,12,none⟩) slc hg).trans z0,(Bl.cellOf (w:=w) (p:=⟨g,13,none⟩) slc hg).trans z1,(Bl.cellOf (w:=w) (p:=⟨g,14,none⟩) slc hg).trans z2,(Bl.cellOf (w:=w) (p:=⟨g,15,none⟩) slc hg).trans z3,(Bl.cellOf (w:=w) (p:=⟨g,16,none⟩) slc hg).trans z4,(Bl.cellOf (w:=w) (p:=⟨g,17,none⟩) slc hg).trans z5⟩⟩) (first |(go_at_call 47;refine(sDoubleArea_any _ (hX0.bl slc) (hY0.bl slc) (hX1.bl slc) (hY1.bl slc) (hX2.bl slc) (hY2.bl slc)).mono ?_;rintro en w2 ⟨s3,A3,n3,c3,B3,m3,d3,rfl,hR,hb2⟩;(first | have hq:Wk 3 31 _ _:=wk_newd hb2 | have hq:Wk 3 31 _ _:=wk_new hb2 | skip);(try obtain⟨⟨q0,q1,q2⟩,q3,q4,q5⟩:=hq.out3)))
  · skip
    go_upto_region 4 with (fail)
    refine wp_gen (fun W3=> Bl w W3∧Blk W3 (w2.heap.size) 31 #[.bool s3,.slice A3 n3 c3,.slice B3 m3 d3]∧RdR W3 s3 A3 n3 c3 B3 m3 d3 (dblA p0 p1 p2)) ⟨slc,Blk.new _ _ _,hR.rd.bl slc⟩ ?_
    clear hR hb2
    rintro W3 ⟨hb3,hN,hD⟩
    have hN4:=hN
    have x0':W3.cell? ⟨g,0,none⟩=some (.bool s):=(Bl.cellOf (w:=w) (p:=⟨g,0,none⟩) hb3 hg).trans x0
    have x1':W3.cell? ⟨g,1,none⟩=some (.slice A n c):=(Bl.cellOf (w:=w) (p:=⟨g,1,none⟩) hb3 hg).trans x1
    have x2':W3.cell? ⟨g,2,none⟩=some (.slice B m d):=(Bl.cellOf (w:=w) (p:=⟨g,2,none⟩) hb3 hg).trans x2
    have x3':W3.cell? ⟨g,3,none⟩=some (.bool t):=(Bl.cellOf (w:=w) (p:=⟨g,3,none⟩) hb3 hg).trans x3
    have x4':W3.cell? ⟨g,4,none⟩=some (.slice C i e):=(Bl.cellOf (w:=w) (p:=⟨g,4,none⟩) hb3 hg).trans x4
    have x5':W3.cell? ⟨g,5,none⟩=some (.slice D j f):=(Bl.cellOf (w:=w) (p:=⟨g,5,none⟩) hb3 hg).trans x5
    go_wp2_with fail
    refine(sIsValidPoint_no _ (hX0.bl hb3) (hY0.bl hb3) v0.out).mono ?_
    rintro e w4 ⟨rfl,hb4⟩
    have hN4:=hN4.bl hb4
    have hR40:=hD.bl hb4
    have hbb4:=Bl.next hb3 hb4
    go_wp2_with fail
    go_ret
    exact⟨ret_bool hv.out.symm,hbb4⟩
  · skip
    go_upto_region 4 with (fail)
    refine wp_gen (fun W3=> Bl w W3∧Blk W3 (w.heap.size) 31 #[.bool s3,.slice A3 n3 c3,.slice B3 m3 d3]∧RdR W3 s3 A3 n3 c3 B3 m3 d3 (dblA p0 p1 p2)) ⟨slc,Wk.put3 hq _ _ _,(((hR.far (by simp) _).far (by simp) _).far (by simp) _).rd⟩ ?_
    clear hR hb2
    rintro W3 ⟨hb3,hN,hD⟩
    have hN4:=hN
    have x0':W3.cell? ⟨g,0,none⟩=some (.bool s):=(Bl.cellOf (w:=w) (p:=⟨g,0,none⟩) hb3 hg).trans x0
    have x1':W3.cell? ⟨g,1,none⟩=some (.slice A n c):=(Bl.cellOf (w:=w) (p:=⟨g,1,none⟩) hb3 hg).trans x1
    have x2':W3.cell? ⟨g,2,none⟩=some (.slice B m d):=(Bl.cellOf (w:=w) (p:=⟨g,2,none⟩) hb3 hg).trans x2
    have x3':W3.cell? ⟨g,3,none⟩=some (.bool t):=(Bl.cellOf (w:=w) (p:=⟨g,3,none⟩) hb3 hg).trans x3
    have x4':W3.cell? ⟨g,4,none⟩=some (.slice C i e):=(Bl.cellOf (w:=w) (p:=⟨g,4,none⟩) hb3 hg).trans x4
    have x5':W3.cell? ⟨g,5,none⟩=some (.slice D j f):=(Bl.cellOf (w:=w) (p:=⟨g,5,none⟩) hb3 hg).trans x5
    go_wp2_with fail
    refine(sIsValidPoint_no _ (hX0.bl hb3) (hY0.bl hb3) v0.out).mono ?_
    rintro e w4 ⟨rfl,hb4⟩
    have hN4:=hN4.bl hb4
    have hR40:=hD.bl hb4
    have hbb4:=Bl.next hb3 hb4
    go_wp2_with fail
    go_ret
    exact⟨ret_bool hv.out.symm,hbb4⟩

set_option maxRecDepth 100000 in
set_option maxHeartbeats 8000000 in
theorem sIsProper_1 (w:World) {g c0:Nat}{p0 p1 p2:PtD}(h:RdPS w (some ⟨g,0,none⟩) 3 c0 [p0,p1,p2]) (v0:Hid (OkP p0)) (v1:Hid (¬ OkP p1)) (hv:Hid (propB [p0,p1,p2]=false)) :
    Calls Tryz.prog 38 #[.slice (some ⟨g,0,none⟩) 3 c0] w fun e w'=> e=.returned (.bool (propB [p0,p1,p2]))∧Bl w w':=by
  obtain⟨_,e0,hg,hc0⟩:=h.cells 0 (by omega)
  cases e0
  rw[Addr.add_lit] at hc0
  obtain⟨s,A,n,c,B,m,d,t,C,i,e,D,j,f,⟨x0,x1,x2,x3,x4,x5⟩,hX0,hY0⟩:=(show PtAt w ⟨g,0,none⟩ p0 from hc0)
  have x0:w.cell? ⟨g,0,none⟩=some (.bool s):=x0
  have x1:w.cell? ⟨g,1,none⟩=some (.slice A n c):=x1
  have x2:w.cell? ⟨g,2,none⟩=some (.slice B m d):=x2
  have x3:w.cell? ⟨g,3,none⟩=some (.bool t):=x3
  have x4:w.cell? ⟨g,4,none⟩=some (.slice C i e):=x4
  have x5:w.cell? ⟨g,5,none⟩=some (.slice D j f):=x5
  obtain⟨_,e0,hg,hc1⟩:=h.cells 1 (by omega)
  cases e0
  rw[Addr.add_lit] at hc1
  obtain⟨s',A',n',c',B',m',d',t',C',i',e',D',j',f',⟨y0,y1,y2,y3,y4,y5⟩,hX1,hY1⟩:=(show PtAt w ⟨g,6,none⟩ p1 from hc1)
  have y0:w.cell? ⟨g,6,none⟩=some (.bool s'):=y0
  have y1:w.cell? ⟨g,7,none⟩=some (.slice A' n' c'):=y1
  have y2:w.cell? ⟨g,8,none⟩=some (.slice B' m' d'):=y2
  have y3:w.cell? ⟨g,9,none⟩=some (.bool t'):=y3
  have y4:w.cell? ⟨g,10,none⟩=some (.slice C' i' e'):=y4
  have y5:w.cell? ⟨g,11,none⟩=some (.slice D' j' f'):=y5
  obtain⟨_,e0,hg,hc2⟩:=h.cells 2 (by omega)
  cases e0
  rw[Addr.add_lit] at hc2
  obtain⟨s2,A2,n2,c2,B2,m2,d2,t2,C2,i2,e2,D2,j2,f2,⟨z0,z1,z2,z3,z4,z5⟩,hX2,hY2⟩:=(show PtAt w ⟨g,12,none⟩ p2 from hc2)
  have z0:w.cell? ⟨g,12,none⟩=some (.bool s2):=z0
  have z1:w.cell? ⟨g,13,none⟩=some (.slice A2 n2 c2):=z1
  have z2:w.cell? ⟨g,14,none⟩=some (.slice B2 m2 d2):=z2
  have z3:w.cell? ⟨g,15,none⟩=some (.bool t2):=z3
  have z4:w.cell? ⟨g,16,none⟩=some (.slice C2 i2 e2):=z4
  have z5:w.cell? ⟨g,17,none⟩=some (.slice D2 j2 f2):=z5
  clear hc0 hc1 hc2
  go_enter Tryz.func38,Tryz.ntmps38
  go_wp2_with fail
  go_region_held3 (fun w' =>(w'.cell? ⟨g,0,none⟩=some (.bool s)∧w'.cell? ⟨g,1,none⟩=some (.slice A n c)∧w'.cell? ⟨g,2,none⟩=some (.slice B m d)∧w'.cell? ⟨g,3,none⟩=some (.bool t)∧w'.cell? ⟨g,4,none⟩=some (.slice C i e)∧w'.cell? ⟨g,5,none⟩=some (.slice D j f))∧(w'.cell? ⟨g,6,none⟩=some (.bool s')∧w'.cell? ⟨g,7,none⟩=some (.slice A' n' c')∧w'.cell? ⟨g,8,none⟩=some (.slice B' m' d')∧w'.cell? ⟨g,9,none⟩=some (.bool t')∧w'.cell? ⟨g,10,none⟩=some (.slice C' i' e')∧w'.cell? ⟨g,11,none⟩=some (.slice D' j' f'))∧(w'.cell? ⟨g,12,none⟩=some (.bool s2)∧w'.cell? ⟨g,13,none⟩=some (.slice A2 n2 c2)∧w'.cell? ⟨g,14,none⟩=some (.slice B2 m2 d2)∧w'.cell? ⟨g,15,none⟩=some (.bool t2)∧w'.cell? ⟨g,16,none⟩=some (.slice C2 i2 e2)∧w'.cell? ⟨g,17,none⟩=some (.slice D2 j2 f2))) (first | exact⟨⟨(Bl.cellOf (w:=w) (p:=⟨g,0,none⟩) slc hg).trans x0,(Bl.cellOf (w:=w) (p:=⟨g,1,none⟩) slc hg).trans x1,(Bl.cellOf (w:=w) (p:=⟨g,2,none⟩) slc hg).trans x2,(Bl.cellOf (w:=w) (p:=⟨g,3,none⟩) slc hg).trans x3,(Bl.cellOf (w:=w) (p:=⟨g,4,none⟩) slc hg).trans x4,(Bl.cellOf (w:=w) (p:=⟨g,5,none⟩) slc hg).trans x5⟩,⟨(Bl.cellOf (w:=w) (p:=⟨g,6,none⟩) slc hg).trans y0,(Bl.cellOf (w:=w) (p:=⟨g,7,none⟩) slc hg).trans y1,(Bl.cellOf (w:=w) (p:=⟨g,8,none⟩) slc hg).trans y2,(Bl.cellOf (w:=w) (p:=⟨g,9,none⟩) slc hg).trans y3,(Bl.cellOf (w:=w) (p:=⟨g,10,none⟩) slc hg).trans y4,(Bl.cellOf (w:=w) (p:=⟨g,11,none⟩) slc hg).trans y5⟩,⟨(Bl.cellOf (w:=w) (p:=⟨g,12,none⟩) slc hg).trans z0,(Bl.cellOf (w:=w) (p:=⟨g,13,none⟩) slc hg).trans z1,(Bl.cellOf (w:=w) (p:=⟨g,14,none⟩) slc hg).trans z2,(Bl.cellOf (w:=w) (p:=⟨g,15,none⟩) slc hg).trans z3,(Bl.cellOf (w:=w) (p:=⟨g,16,none⟩) slc hg).trans z4,(Bl.cellOf (w:=w) (p:=⟨g,17,none⟩) slc hg).trans z5⟩⟩) (first |(go_at_call 47;refine(sDoubleArea_any _ (hX0.bl slc) (hY0.bl slc) (hX1.bl slc) (hY1.bl slc) (hX2.bl slc) (hY2.bl slc)).mono ?_;rintro en w2 ⟨s3,A3,n3,c3,B3,m3,d3,rfl,hR,hb2⟩;(first | have hq:Wk 3 31 _ _:=wk_newd hb2 | have hq:Wk 3 31 _ _:=wk_new hb2 | skip);(try obtain⟨⟨q0,q1,q2⟩,q3,q4,q5⟩:=hq.out3)))
  · skip
    go_upto_region 4 with (fail)
    refine wp_gen (fun W3=> Bl w W3∧Blk W3 (w2.heap.size) 31 #[.bool s3,.slice A3 n3 c3,.slice B3 m3 d3]∧RdR W3 s3 A3 n3 c3 B3 m3 d3 (dblA p0 p1 p2)) ⟨slc,Blk.new _ _ _,hR.rd.bl slc⟩ ?_
    clear hR hb2
    rintro W3 ⟨hb3,hN,hD⟩
    have hN4:=hN
    have x0':W3.cell? ⟨g,0,none⟩=some (.bool s):=(Bl.cellOf (w:=w) (p:=⟨g,0,none⟩) hb3 hg).trans x0
    have x1':W3.cell? ⟨g,1,none⟩=some (.slice A n c):=(Bl.cellOf (w:=w) (p:=⟨g,1,none⟩) hb3 hg).trans x1
    have x2':W3.cell? ⟨g,2,none⟩=some (.slice B m d):=(Bl.cellOf (w:=w) (p:=⟨g,2,none⟩) hb3 hg).trans x2
    have x3':W3.cell? ⟨g,3,none⟩=some (.bool t):=(Bl.cellOf (w:=w) (p:=⟨g,3,none⟩) hb3 hg).trans x3
    have x4':W3.cell? ⟨g,4,none⟩=some (.slice C i e):=(Bl.cellOf (w:=w) (p:=⟨g,4,none⟩) hb3 hg).trans x4
    have x5':W3.cell? ⟨g,5,none⟩=some (.slice D j f):=(Bl.cellOf (w:=w) (p:=⟨g,5,none⟩) hb3 hg).trans x5
    go_wp2_with fail
    refine(sIsValidPoint_yes _ (hX0.bl hb3) (hY0.bl hb3) v0.out).mono ?_
    rintro e w4 ⟨rfl,hb4⟩
    have hN4:=hN4.bl hb4
    have hR40:=hD.bl hb4
    have hbb4:=Bl.next hb3 hb4
    have y0':w4.cell? ⟨g,6,none⟩=some (.bool s'):=(Bl.cellOf (w:=w) (p:=⟨g,6,none⟩) hbb4 hg).trans y0
    have y1':w4.cell? ⟨g,7,none⟩=some (.slice A' n' c'):=(Bl.cellOf (w:=w) (p:=⟨g,7,none⟩) hbb4 hg).trans y1
    have y2':w4.cell? ⟨g,8,none⟩=some (.slice B' m' d'):=(Bl.cellOf (w:=w) (p:=⟨g,8,none⟩) hbb4 hg).trans y2
    have y3':w4.cell? ⟨g,9,none⟩=some (.bool t'):=(Bl.cellOf (w:=w) (p:=⟨g,9,none⟩) hbb4 hg).trans y3
    have y4':w4.cell? ⟨g,10,none⟩=some (.slice C' i' e'):=(Bl.cellOf (w:=w) (p:=⟨g,10,none⟩) hbb4 hg).trans y4
    have y5':w4.cell? ⟨g,11,none⟩=some (.slice D' j' f'):=(Bl.cellOf (w:=w) (p:=⟨g,11,none⟩) hbb4 hg).trans y5
    go_wp2_with fail
    refine(sIsValidPoint_no _ (hX1.bl hbb4) (hY1.bl hbb4) v1.out).mono ?_
    rintro e w5 ⟨rfl,hb5⟩
    have hN4:=hN4.bl hb5
    have hR41:=hR40.bl hb5
    have hbb5:=Bl.next hbb4 hb5
    go_wp2_with fail
    go_ret
    exact⟨ret_bool hv.out.symm,hbb5⟩
  · skip
    go_upto_region 4 with (fail)
    refine wp_gen (fun W3=> Bl w W3∧Blk W3 (w.heap.size) 31 #[.bool s3,.slice A3 n3 c3,.slice B3 m3 d3]∧RdR W3 s3 A3 n3 c3 B3 m3 d3 (dblA p0 p1 p2)) ⟨slc,Wk.put3 hq _ _ _,(((hR.far (by simp) _).far (by simp) _).far (by simp) _).rd⟩ ?_
    clear hR hb2
    rintro W3 ⟨hb3,hN,hD⟩
    have hN4:=hN
    have x0':W3.cell? ⟨g,0,none⟩=some (.bool s):=(Bl.cellOf (w:=w) (p:=⟨g,0,none⟩) hb3 hg).trans x0
    have x1':W3.cell? ⟨g,1,none⟩=some (.slice A n c):=(Bl.cellOf (w:=w) (p:=⟨g,1,none⟩) hb3 hg).trans x1
    have x2':W3.cell? ⟨g,2,none⟩=some (.slice B m d):=(Bl.cellOf (w:=w) (p:=⟨g,2,none⟩) hb3 hg).trans x2
    have x3':W3.cell? ⟨g,3,none⟩=some (.bool t):=(Bl.cellOf (w:=w) (p:=⟨g,3,none⟩) hb3 hg).trans x3
    have x4':W3.cell? ⟨g,4,none⟩=some (.slice C i e):=(Bl.cellOf (w:=w) (p:=⟨g,4,none⟩) hb3 hg).trans x4
    have x5':W3.cell? ⟨g,5,none⟩=some (.slice D j f):=(Bl.cellOf (w:=w) (p:=⟨g,5,none⟩) hb3 hg).trans x5
    go_wp2_with fail
    refine(sIsValidPoint_yes _ (hX0.bl hb3) (hY0.bl hb3) v0.out).mono ?_
    rintro e w4 ⟨rfl,hb4⟩
    have hN4:=hN4.bl hb4
    have hR40:=hD.bl hb4
    have hbb4:=Bl.next hb3 hb4
    have y0':w4.cell? ⟨g,6,none⟩=some (.bool s'):=(Bl.cellOf (w:=w) (p:=⟨g,6,none⟩) hbb4 hg).trans y0
    have y1':w4.cell? ⟨g,7,none⟩=some (.slice A' n' c'):=(Bl.cellOf (w:=w) (p:=⟨g,7,none⟩) hbb4 hg).trans y1
    have y2':w4.cell? ⟨g,8,none⟩=some (.slice B' m' d'):=(Bl.cellOf (w:=w) (p:=⟨g,8,none⟩) hbb4 hg).trans y2
    have y3':w4.cell? ⟨g,9,none⟩=some (.bool t'):=(Bl.cellOf (w:=w) (p:=⟨g,9,none⟩) hbb4 hg).trans y3
    have y4':w4.cell? ⟨g,10,none⟩=some (.slice C' i' e'):=(Bl.cellOf (w:=w) (p:=⟨g,10,none⟩) hbb4 hg).trans y4
    have y5':w4.cell? ⟨g,11,none⟩=some (.slice D' j' f'):=(Bl.cellOf (w:=w) (p:=⟨g,11,none⟩) hbb4 hg).trans y5
    go_wp2_with fail
    refine(sIsValidPoint_no _ (hX1.bl hbb4) (hY1.bl hbb4) v1.out).mono ?_
    rintro e w5 ⟨rfl,hb5⟩
    have hN4:=hN4.bl hb5
    have hR41:=hR40.bl hb5
    have hbb5:=Bl.next hbb4 hb5
    go_wp2_with fail
    go_ret
    exact⟨ret_bool hv.out.symm,hbb5⟩

set_option maxRecDepth 100000 in
set_option maxHeartbeats 8000000 in
theorem sIsProper_2 (w:World) {g c0:Nat}{p0 p1 p2:PtD}(h:RdPS w (some ⟨g,0,none⟩) 3 c0 [p0,p1,p2]) (v0:Hid (OkP p0)) (v1:Hid (OkP p1)) (v2:Hid (¬ OkP p2)) (hv:Hid (propB [p0,p1,p2]=false)) :
    Calls Tryz.prog 38 #[.slice (some ⟨g,0,none⟩) 3 c0] w fun e w'=> e=.returned (.bool (propB [p0,p1,p2]))∧Bl w w':=by
  obtain⟨_,e0,hg,hc0⟩:=h.cells 0 (by omega)
  cases e0
  rw[Addr.add_lit] at hc0
  obtain⟨s,A,n,c,B,m,d,t,C,i,e,D,j,f,⟨x0,x1,x2,x3,x4,x5⟩,hX0,hY0⟩:=(show PtAt w ⟨g,0,none⟩ p0 from hc0)
  have x0:w.cell? ⟨g,0,none⟩=some (.bool s):=x0
  have x1:w.cell? ⟨g,1,none⟩=some (.slice A n c):=x1
  have x2:w.cell? ⟨g,2,none⟩=some (.slice B m d):=x2
  have x3:w.cell? ⟨g,3,none⟩=some (.bool t):=x3
  have x4:w.cell? ⟨g,4,none⟩=some (.slice C i e):=x4
  have x5:w.cell? ⟨g,5,none⟩=some (.slice D j f):=x5
  obtain⟨_,e0,hg,hc1⟩:=h.cells 1 (by omega)
  cases e0
  rw[Addr.add_lit] at hc1
  obtain⟨s',A',n',c',B',m',d',t',C',i',e',D',j',f',⟨y0,y1,y2,y3,y4,y5⟩,hX1,hY1⟩:=(show PtAt w ⟨g,6,none⟩ p1 from hc1)
  have y0:w.cell? ⟨g,6,none⟩=some (.bool s'):=y0
  have y1:w.cell? ⟨g,7,none⟩=some (.slice A' n' c'):=y1
  have y2:w.cell? ⟨g,8,none⟩=some (.slice B' m' d'):=y2
  have y3:w.cell? ⟨g,9,none⟩=some (.bool t'):=y3
  have y4:w.cell? ⟨g,10,none⟩=some (.slice C' i' e'):=y4
  have y5:w.cell? ⟨g,11,none⟩=some (.slice D' j' f'):=y5
  obtain⟨_,e0,hg,hc2⟩:=h.cells 2 (by omega)
  cases e0
  rw[Addr.add_lit] at hc2
  obtain⟨s2,A2,n2,c2,B2,m2,d2,t2,C2,i2,e2,D2,j2,f2,⟨z0,z1,z2,z3,z4,z5⟩,hX2,hY2⟩:=(show PtAt w ⟨g,12,none⟩ p2 from hc2)
  have z0:w.cell? ⟨g,12,none⟩=some (.bool s2):=z0
  have z1:w.cell? ⟨g,13,none⟩=some (.slice A2 n2 c2):=z1
  have z2:w.cell? ⟨g,14,none⟩=some (.slice B2 m2 d2):=z2
  have z3:w.cell? ⟨g,15,none⟩=some (.bool t2):=z3
  have z4:w.cell? ⟨g,16,none⟩=some (.slice C2 i2 e2):=z4
  have z5:w.cell? ⟨g,17,none⟩=some (.slice D2 j2 f2):=z5
  clear hc0 hc1 hc2
  go_enter Tryz.func38,Tryz.ntmps38
  go_wp2_with fail
  go_region_held3 (fun w' =>(w'.cell? ⟨g,0,none⟩=some (.bool s)∧w'.cell? ⟨g,1,none⟩=some (.slice A n c)∧w'.cell? ⟨g,2,none⟩=some (.slice B m d)∧w'.cell? ⟨g,3,none⟩=some (.bool t)∧w'.cell? ⟨g,4,none⟩=some (.slice C i e)∧w'.cell? ⟨g,5,none⟩=some (.slice D j f))∧(w'.cell? ⟨g,6,none⟩=some (.bool s')∧w'.cell? ⟨g,7,none⟩=some (.slice A' n' c')∧w'.cell? ⟨g,8,none⟩=some (.slice B' m' d')∧w'.cell? ⟨g,9,none⟩=some (.bool t')∧w'.cell? ⟨g,10,none⟩=some (.slice C' i' e')∧w'.cell? ⟨g,11,none⟩=some (.slice D' j' f'))∧(w'.cell? ⟨g,12,none⟩=some (.bool s2)∧w'.cell? ⟨g,13,none⟩=some (.slice A2 n2 c2)∧w'.cell? ⟨g,14,none⟩=some (.slice B2 m2 d2)∧w'.cell? ⟨g,15,none⟩=some (.bool t2)∧w'.cell? ⟨g,16,none⟩=some (.slice C2 i2 e2)∧w'.cell? ⟨g,17,none⟩=some (.slice D2 j2 f2))) (first | exact⟨⟨(Bl.cellOf (w:=w) (p:=⟨g,0,none⟩) slc hg).trans x0,(Bl.cellOf (w:=w) (p:=⟨g,1,none⟩) slc hg).trans x1,(Bl.cellOf (w:=w) (p:=⟨g,2,none⟩) slc hg).trans x2,(Bl.cellOf (w:=w) (p:=⟨g,3,none⟩) slc hg).trans x3,(Bl.cellOf (w:=w) (p:=⟨g,4,none⟩) slc hg).trans x4,(Bl.cellOf (w:=w) (p:=⟨g,5,none⟩) slc hg).trans x5⟩,⟨(Bl.cellOf (w:=w) (p:=⟨g,6,none⟩) slc hg).trans y0,(Bl.cellOf (w:=w) (p:=⟨g,7,none⟩) slc hg).trans y1,(Bl.cellOf (w:=w) (p:=⟨g,8,none⟩) slc hg).trans y2,(Bl.cellOf (w:=w) (p:=⟨g,9,none⟩) slc hg).trans y3,(Bl.cellOf (w:=w) (p:=⟨g,10,none⟩) slc hg).trans y4,(Bl.cellOf (w:=w) (p:=⟨g,11,none⟩) slc hg).trans y5⟩,⟨(Bl.cellOf (w:=w) (p:=⟨g,12,none⟩) slc hg).trans z0,(Bl.cellOf (w:=w) (p:=⟨g,13,none⟩) slc hg).trans z1,(Bl.cellOf (w:=w) (p:=⟨g,14,none⟩) slc hg).trans z2,(Bl.cellOf (w:=w) (p:=⟨g,15,none⟩) slc hg).trans z3,(Bl.cellOf (w:=w) (p:=⟨g,16,none⟩) slc hg).trans z4,(Bl.cellOf (w:=w) (p:=⟨g,17,none⟩) slc hg).trans z5⟩⟩) (first |(go_at_call 47;refine(sDoubleArea_any _ (hX0.bl slc) (hY0.bl slc) (hX1.bl slc) (hY1.bl slc) (hX2.bl slc) (hY2.bl slc)).mono ?_;rintro en w2 ⟨s3,A3,n3,c3,B3,m3,d3,rfl,hR,hb2⟩;(first | have hq:Wk 3 31 _ _:=wk_newd hb2 | have hq:Wk 3 31 _ _:=wk_new hb2 | skip);(try obtain⟨⟨q0,q1,q2⟩,q3,q4,q5⟩:=hq.out3)))
  · skip
    go_upto_region 4 with (fail)
    refine wp_gen (fun W3=> Bl w W3∧Blk W3 (w2.heap.size) 31 #[.bool s3,.slice A3 n3 c3,.slice B3 m3 d3]∧RdR W3 s3 A3 n3 c3 B3 m3 d3 (dblA p0 p1 p2)) ⟨slc,Blk.new _ _ _,hR.rd.bl slc⟩ ?_
    clear hR hb2
    rintro W3 ⟨hb3,hN,hD⟩
    have hN4:=hN
    have x0':W3.cell? ⟨g,0,none⟩=some (.bool s):=(Bl.cellOf (w:=w) (p:=⟨g,0,none⟩) hb3 hg).trans x0
    have x1':W3.cell? ⟨g,1,none⟩=some (.slice A n c):=(Bl.cellOf (w:=w) (p:=⟨g,1,none⟩) hb3 hg).trans x1
    have x2':W3.cell? ⟨g,2,none⟩=some (.slice B m d):=(Bl.cellOf (w:=w) (p:=⟨g,2,none⟩) hb3 hg).trans x2
    have x3':W3.cell? ⟨g,3,none⟩=some (.bool t):=(Bl.cellOf (w:=w) (p:=⟨g,3,none⟩) hb3 hg).trans x3
    have x4':W3.cell? ⟨g,4,none⟩=some (.slice C i e):=(Bl.cellOf (w:=w) (p:=⟨g,4,none⟩) hb3 hg).trans x4
    have x5':W3.cell? ⟨g,5,none⟩=some (.slice D j f):=(Bl.cellOf (w:=w) (p:=⟨g,5,none⟩) hb3 hg).trans x5
    go_wp2_with fail
    refine(sIsValidPoint_yes _ (hX0.bl hb3) (hY0.bl hb3) v0.out).mono ?_
    rintro e w4 ⟨rfl,hb4⟩
    have hN4:=hN4.bl hb4
    have hR40:=hD.bl hb4
    have hbb4:=Bl.next hb3 hb4
    have y0':w4.cell? ⟨g,6,none⟩=some (.bool s'):=(Bl.cellOf (w:=w) (p:=⟨g,6,none⟩) hbb4 hg).trans y0
    have y1':w4.cell? ⟨g,7,none⟩=some (.slice A' n' c'):=(Bl.cellOf (w:=w) (p:=⟨g,7,none⟩) hbb4 hg).trans y1
    have y2':w4.cell? ⟨g,8,none⟩=some (.slice B' m' d'):=(Bl.cellOf (w:=w) (p:=⟨g,8,none⟩) hbb4 hg).trans y2
    have y3':w4.cell? ⟨g,9,none⟩=some (.bool t'):=(Bl.cellOf (w:=w) (p:=⟨g,9,none⟩) hbb4 hg).trans y3
    have y4':w4.cell? ⟨g,10,none⟩=some (.slice C' i' e'):=(Bl.cellOf (w:=w) (p:=⟨g,10,none⟩) hbb4 hg).trans y4
    have y5':w4.cell? ⟨g,11,none⟩=some (.slice D' j' f'):=(Bl.cellOf (w:=w) (p:=⟨g,11,none⟩) hbb4 hg).trans y5
    go_wp2_with fail
    refine(sIsValidPoint_yes _ (hX1.bl hbb4) (hY1.bl hbb4) v1.out).mono ?_
    rintro e w5 ⟨rfl,hb5⟩
    have hN4:=hN4.bl hb5
    have hR41:=hR40.bl hb5
    have hbb5:=Bl.next hbb4 hb5
    have z0':w5.cell? ⟨g,12,none⟩=some (.bool s2):=(Bl.cellOf (w:=w) (p:=⟨g,12,none⟩) hbb5 hg).trans z0
    have z1':w5.cell? ⟨g,13,none⟩=some (.slice A2 n2 c2):=(Bl.cellOf (w:=w) (p:=⟨g,13,none⟩) hbb5 hg).trans z1
    have z2':w5.cell? ⟨g,14,none⟩=some (.slice B2 m2 d2):=(Bl.cellOf (w:=w) (p:=⟨g,14,none⟩) hbb5 hg).trans z2
    have z3':w5.cell? ⟨g,15,none⟩=some (.bool t2):=(Bl.cellOf (w:=w) (p:=⟨g,15,none⟩) hbb5 hg).trans z3
    have z4':w5.cell? ⟨g,16,none⟩=some (.slice C2 i2 e2):=(Bl.cellOf (w:=w) (p:=⟨g,16,none⟩) hbb5 hg).trans z4
    have z5':w5.cell? ⟨g,17,none⟩=some (.slice D2 j2 f2):=(Bl.cellOf (w:=w) (p:=⟨g,17,none⟩) hbb5 hg).trans z5
    go_wp2_with fail
    refine(sIsValidPoint_no _ (hX2.bl hbb5) (hY2.bl hbb5) v2.out).mono ?_
    rintro e w6 ⟨rfl,hb6⟩
    have hN4:=hN4.bl hb6
    have hR42:=hR41.bl hb6
    have hbb6:=Bl.next hbb5 hb6
    go_wp2_with fail
    go_ret
    exact⟨ret_bool hv.out.symm,hbb6⟩
  · skip
    go_upto_region 4 with (fail)
    refine wp_gen (fun W3=> Bl w W3∧Blk W3 (w.heap.size) 31 #[.bool s3,.slice A3 n3 c3,.slice B3 m3 d3]∧RdR W3 s3 A3 n3 c3 B3 m3 d3 (dblA p0 p1 p2)) ⟨slc,Wk.put3 hq _ _ _,(((hR.far (by simp) _).far (by simp) _).far (by simp) _).rd⟩ ?_
    clear hR hb2
    rintro W3 ⟨hb3,hN,hD⟩
    have hN4:=hN
    have x0':W3.cell? ⟨g,0,none⟩=some (.bool s):=(Bl.cellOf (w:=w) (p:=⟨g,0,none⟩) hb3 hg).trans x0
    have x1':W3.cell? ⟨g,1,none⟩=some (.slice A n c):=(Bl.cellOf (w:=w) (p:=⟨g,1,none⟩) hb3 hg).trans x1
    have x2':W3.cell? ⟨g,2,none⟩=some (.slice B m d):=(Bl.cellOf (w:=w) (p:=⟨g,2,none⟩) hb3 hg).trans x2
    have x3':W3.cell? ⟨g,3,none⟩=some (.bool t):=(Bl.cellOf (w:=w) (p:=⟨g,3,none⟩) hb3 hg).trans x3
    have x4':W3.cell? ⟨g,4,none⟩=some (.slice C i e):=(Bl.cellOf (w:=w) (p:=⟨g,4,none⟩) hb3 hg).trans x4
    have x5':W3.cell? ⟨g,5,none⟩=some (.slice D j f):=(Bl.cellOf (w:=w) (p:=⟨g,5,none⟩) hb3 hg).trans x5
    go_wp2_with fail
    refine(sIsValidPoint_yes _ (hX0.bl hb3) (hY0.bl hb3) v0.out).mono ?_
    rintro e w4 ⟨rfl,hb4⟩
    have hN4:=hN4.bl hb4
    have hR40:=hD.bl hb4
    have hbb4:=Bl.next hb3 hb4
    have y0':w4.cell? ⟨g,6,none⟩=some (.bool s'):=(Bl.cellOf (w:=w) (p:=⟨g,6,none⟩) hbb4 hg).trans y0
    have y1':w4.cell? ⟨g,7,none⟩=some (.slice A' n' c'):=(Bl.cellOf (w:=w) (p:=⟨g,7,none⟩) hbb4 hg).trans y1
    have y2':w4.cell? ⟨g,8,none⟩=some (.slice B' m' d'):=(Bl.cellOf (w:=w) (p:=⟨g,8,none⟩) hbb4 hg).trans y2
    have y3':w4.cell? ⟨g,9,none⟩=some (.bool t'):=(Bl.cellOf (w:=w) (p:=⟨g,9,none⟩) hbb4 hg).trans y3
    have y4':w4.cell? ⟨g,10,none⟩=some (.slice C' i' e'):=(Bl.cellOf (w:=w) (p:=⟨g,10,none⟩) hbb4 hg).trans y4
    have y5':w4.cell? ⟨g,11,none⟩=some (.slice D' j' f'):=(Bl.cellOf (w:=w) (p:=⟨g,11,none⟩) hbb4 hg).trans y5
    go_wp2_with fail
    refine(sIsValidPoint_yes _ (hX1.bl hbb4) (hY1.bl hbb4) v1.out).mono ?_
    rintro e w5 ⟨rfl,hb5⟩
    have hN4:=hN4.bl hb5
    have hR41:=hR40.bl hb5
    have hbb5:=Bl.next hbb4 hb5
    have z0':w5.cell? ⟨g,12,none⟩=some (.bool s2):=(Bl.cellOf (w:=w) (p:=⟨g,12,none⟩) hbb5 hg).trans z0
    have z1':w5.cell? ⟨g,13,none⟩=some (.slice A2 n2 c2):=(Bl.cellOf (w:=w) (p:=⟨g,13,none⟩) hbb5 hg).trans z1
    have z2':w5.cell? ⟨g,14,none⟩=some (.slice B2 m2 d2):=(Bl.cellOf (w:=w) (p:=⟨g,14,none⟩) hbb5 hg).trans z2
    have z3':w5.cell? ⟨g,15,none⟩=some (.bool t2):=(Bl.cellOf (w:=w) (p:=⟨g,15,none⟩) hbb5 hg).trans z3
    have z4':w5.cell? ⟨g,16,none⟩=some (.slice C2 i2 e2):=(Bl.cellOf (w:=w) (p:=⟨g,16,none⟩) hbb5 hg).trans z4
    have z5':w5.cell? ⟨g,17,none⟩=some (.slice D2 j2 f2):=(Bl.cellOf (w:=w) (p:=⟨g,17,none⟩) hbb5 hg).trans z5
    go_wp2_with fail
    refine(sIsValidPoint_no _ (hX2.bl hbb5) (hY2.bl hbb5) v2.out).mono ?_
    rintro e w6 ⟨rfl,hb6⟩
    have hN4:=hN4.bl hb6
    have hR42:=hR41.bl hb6
    have hbb6:=Bl.next hbb5 hb6
    go_wp2_with fail
    go_ret
    exact⟨ret_bool hv.out.symm,hbb6⟩

set_option maxRecDepth 100000 in
set_option maxHeartbeats 8000000 in
theorem sIsProper_3 (w:World) {g c0:Nat}{p0 p1 p2:PtD}(h:RdPS w (some ⟨g,0,none⟩) 3 c0 [p0,p1,p2]) (v0:Hid (OkP p0)) (v1:Hid (OkP p1)) (v2:Hid (OkP p2)) (v3:Hid (okR (dblA p0 p1 p2)=false)) (hv:Hid (propB [p0,p1,p2]=false)) :
    Calls Tryz.prog 38 #[.slice (some ⟨g,0,none⟩) 3 c0] w fun e w'=> e=.returned (.bool (propB [p0,p1,p2]))∧Bl w w':=by
  obtain⟨_,e0,hg,hc0⟩:=h.cells 0 (by omega)
  cases e0
  rw[Addr.add_lit] at hc0
  obtain⟨s,A,n,c,B,m,d,t,C,i,e,D,j,f,⟨x0,x1,x2,x3,x4,x5⟩,hX0,hY0⟩:=(show PtAt w ⟨g,0,none⟩ p0 from hc0)
  have x0:w.cell? ⟨g,0,none⟩=some (.bool s):=x0
  have x1:w.cell? ⟨g,1,none⟩=some (.slice A n c):=x1
  have x2:w.cell? ⟨g,2,none⟩=some (.slice B m d):=x2
  have x3:w.cell? ⟨g,3,none⟩=some (.bool t):=x3
  have x4:w.cell? ⟨g,4,none⟩=some (.slice C i e):=x4
  have x5:w.cell? ⟨g,5,none⟩=some (.slice D j f):=x5
  obtain⟨_,e0,hg,hc1⟩:=h.cells 1 (by omega)
  cases e0
  rw[Addr.add_lit] at hc1
  obtain⟨s',A',n',c',B',m',d',t',C',i',e',D',j',f',⟨y0,y1,y2,y3,y4,y5⟩,hX1,hY1⟩:=(show PtAt w ⟨g,6,none⟩ p1 from hc1)
  have y0:w.cell? ⟨g,6,none⟩=some (.bool s'):=y0
  have y1:w.cell? ⟨g,7,none⟩=some (.slice A' n' c'):=y1
  have y2:w.cell? ⟨g,8,none⟩=some (.slice B' m' d'):=y2
  have y3:w.cell? ⟨g,9,none⟩=some (.bool t'):=y3
  have y4:w.cell? ⟨g,10,none⟩=some (.slice C' i' e'):=y4
  have y5:w.cell? ⟨g,11,none⟩=some (.slice D' j' f'):=y5
  obtain⟨_,e0,hg,hc2⟩:=h.cells 2 (by omega)
  cases e0
  rw[Addr.add_lit] at hc2
  obtain⟨s2,A2,n2,c2,B2,m2,d2,t2,C2,i2,e2,D2,j2,f2,⟨z0,z1,z2,z3,z4,z5⟩,hX2,hY2⟩:=(show PtAt w ⟨g,12,none⟩ p2 from hc2)
  have z0:w.cell? ⟨g,12,none⟩=some (.bool s2):=z0
  have z1:w.cell? ⟨g,13,none⟩=some (.slice A2 n2 c2):=z1
  have z2:w.cell? ⟨g,14,none⟩=some (.slice B2 m2 d2):=z2
  have z3:w.cell? ⟨g,15,none⟩=some (.bool t2):=z3
  have z4:w.cell? ⟨g,16,none⟩=some (.slice C2 i2 e2):=z4
  have z5:w.cell? ⟨g,17,none⟩=some (.slice D2 j2 f2):=z5
  clear hc0 hc1 hc2
  go_enter Tryz.func38,Tryz.ntmps38
  go_wp2_with fail
  go_region_held3 (fun w' =>(w'.cell? ⟨g,0,none⟩=some (.bool s)∧w'.cell? ⟨g,1,none⟩=some (.slice A n c)∧w'.cell? ⟨g,2,none⟩=some (.slice B m d)∧w'.cell? ⟨g,3,none⟩=some (.bool t)∧w'.cell? ⟨g,4,none⟩=some (.slice C i e)∧w'.cell? ⟨g,5,none⟩=some (.slice D j f))∧(w'.cell? ⟨g,6,none⟩=some (.bool s')∧w'.cell? ⟨g,7,none⟩=some (.slice A' n' c')∧w'.cell? ⟨g,8,none⟩=some (.slice B' m' d')∧w'.cell? ⟨g,9,none⟩=some (.bool t')∧w'.cell? ⟨g,10,none⟩=some (.slice C' i' e')∧w'.cell? ⟨g,11,none⟩=some (.slice D' j' f'))∧(w'.cell? ⟨g,12,none⟩=some (.bool s2)∧w'.cell? ⟨g,13,none⟩=some (.slice A2 n2 c2)∧w'.cell? ⟨g,14,none⟩=some (.slice B2 m2 d2)∧w'.cell? ⟨g,15,none⟩=some (.bool t2)∧w'.cell? ⟨g,16,none⟩=some (.slice C2 i2 e2)∧w'.cell? ⟨g,17,none⟩=some (.slice D2 j2 f2))) (first | exact⟨⟨(Bl.cellOf (w:=w) (p:=⟨g,0,none⟩) slc hg).trans x0,(Bl.cellOf (w:=w) (p:=⟨g,1,none⟩) slc hg).trans x1,(Bl.cellOf (w:=w) (p:=⟨g,2,none⟩) slc hg).trans x2,(Bl.cellOf (w:=w) (p:=⟨g,3,none⟩) slc hg).trans x3,(Bl.cellOf (w:=w) (p:=⟨g,4,none⟩) slc hg).trans x4,(Bl.cellOf (w:=w) (p:=⟨g,5,none⟩) slc hg).trans x5⟩,⟨(Bl.cellOf (w:=w) (p:=⟨g,6,none⟩) slc hg).trans y0,(Bl.cellOf (w:=w) (p:=⟨g,7,none⟩) slc hg).trans y1,(Bl.cellOf (w:=w) (p:=⟨g,8,none⟩) slc hg).trans y2,(Bl.cellOf (w:=w) (p:=⟨g,9,none⟩) slc hg).trans y3,(Bl.cellOf (w:=w) (p:=⟨g,10,none⟩) slc hg).trans y4,(Bl.cellOf (w:=w) (p:=⟨g,11,none⟩) slc hg).trans y5⟩,⟨(Bl.cellOf (w:=w) (p:=⟨g,12,none⟩) slc hg).trans z0,(Bl.cellOf (w:=w) (p:=⟨g,13,none⟩) slc hg).trans z1,(Bl.cellOf (w:=w) (p:=⟨g,14,none⟩) slc hg).trans z2,(Bl.cellOf (w:=w) (p:=⟨g,15,none⟩) slc hg).trans z3,(Bl.cellOf (w:=w) (p:=⟨g,16,none⟩) slc hg).trans z4,(Bl.cellOf (w:=w) (p:=⟨g,17,none⟩) slc hg).trans z5⟩⟩) (first |(go_at_call 47;refine(sDoubleArea_any _ (hX0.bl slc) (hY0.bl slc) (hX1.bl slc) (hY1.bl slc) (hX2.bl slc) (hY2.bl slc)).mono ?_;rintro en w2 ⟨s3,A3,n3,c3,B3,m3,d3,rfl,hR,hb2⟩;(first | have hq:Wk 3 31 _ _:=wk_newd hb2 | have hq:Wk 3 31 _ _:=wk_new hb2 | skip);(try obtain⟨⟨q0,q1,q2⟩,q3,q4,q5⟩:=hq.out3)))
  · skip
    go_upto_region 4 with (fail)
    refine wp_gen (fun W3=> Bl w W3∧Blk W3 (w2.heap.size) 31 #[.bool s3,.slice A3 n3 c3,.slice B3 m3 d3]∧RdR W3 s3 A3 n3 c3 B3 m3 d3 (dblA p0 p1 p2)) ⟨slc,Blk.new _ _ _,hR.rd.bl slc⟩ ?_
    clear hR hb2
    rintro W3 ⟨hb3,hN,hD⟩
    have hN4:=hN
    have x0':W3.cell? ⟨g,0,none⟩=some (.bool s):=(Bl.cellOf (w:=w) (p:=⟨g,0,none⟩) hb3 hg).trans x0
    have x1':W3.cell? ⟨g,1,none⟩=some (.slice A n c):=(Bl.cellOf (w:=w) (p:=⟨g,1,none⟩) hb3 hg).trans x1
    have x2':W3.cell? ⟨g,2,none⟩=some (.slice B m d):=(Bl.cellOf (w:=w) (p:=⟨g,2,none⟩) hb3 hg).trans x2
    have x3':W3.cell? ⟨g,3,none⟩=some (.bool t):=(Bl.cellOf (w:=w) (p:=⟨g,3,none⟩) hb3 hg).trans x3
    have x4':W3.cell? ⟨g,4,none⟩=some (.slice C i e):=(Bl.cellOf (w:=w) (p:=⟨g,4,none⟩) hb3 hg).trans x4
    have x5':W3.cell? ⟨g,5,none⟩=some (.slice D j f):=(Bl.cellOf (w:=w) (p:=⟨g,5,none⟩) hb3 hg).trans x5
    go_wp2_with fail
    refine(sIsValidPoint_yes _ (hX0.bl hb3) (hY0.bl hb3) v0.out).mono ?_
    rintro e w4 ⟨rfl,hb4⟩
    have hN4:=hN4.bl hb4
    have hR40:=hD.bl hb4
    have hbb4:=Bl.next hb3 hb4
    have y0':w4.cell? ⟨g,6,none⟩=some (.bool s'):=(Bl.cellOf (w:=w) (p:=⟨g,6,none⟩) hbb4 hg).trans y0
    have y1':w4.cell? ⟨g,7,none⟩=some (.slice A' n' c'):=(Bl.cellOf (w:=w) (p:=⟨g,7,none⟩) hbb4 hg).trans y1
    have y2':w4.cell? ⟨g,8,none⟩=some (.slice B' m' d'):=(Bl.cellOf (w:=w) (p:=⟨g,8,none⟩) hbb4 hg).trans y2
    have y3':w4.cell? ⟨g,9,none⟩=some (.bool t'):=(Bl.cellOf (w:=w) (p:=⟨g,9,none⟩) hbb4 hg).trans y3
    have y4':w4.cell? ⟨g,10,none⟩=some (.slice C' i' e'):=(Bl.cellOf (w:=w) (p:=⟨g,10,none⟩) hbb4 hg).trans y4
    have y5':w4.cell? ⟨g,11,none⟩=some (.slice D' j' f'):=(Bl.cellOf (w:=w) (p:=⟨g,11,none⟩) hbb4 hg).trans y5
    go_wp2_with fail
    refine(sIsValidPoint_yes _ (hX1.bl hbb4) (hY1.bl hbb4) v1.out).mono ?_
    rintro e w5 ⟨rfl,hb5⟩
    have hN4:=hN4.bl hb5
    have hR41:=hR40.bl hb5
    have hbb5:=Bl.next hbb4 hb5
    have z0':w5.cell? ⟨g,12,none⟩=some (.bool s2):=(Bl.cellOf (w:=w) (p:=⟨g,12,none⟩) hbb5 hg).trans z0
    have z1':w5.cell? ⟨g,13,none⟩=some (.slice A2 n2 c2):=(Bl.cellOf (w:=w) (p:=⟨g,13,none⟩) hbb5 hg).trans z1
    have z2':w5.cell? ⟨g,14,none⟩=some (.slice B2 m2 d2):=(Bl.cellOf (w:=w) (p:=⟨g,14,none⟩) hbb5 hg).trans z2
    have z3':w5.cell? ⟨g,15,none⟩=some (.bool t2):=(Bl.cellOf (w:=w) (p:=⟨g,15,none⟩) hbb5 hg).trans z3
    have z4':w5.cell? ⟨g,16,none⟩=some (.slice C2 i2 e2):=(Bl.cellOf (w:=w) (p:=⟨g,16,none⟩) hbb5 hg).trans z4
    have z5':w5.cell? ⟨g,17,none⟩=some (.slice D2 j2 f2):=(Bl.cellOf (w:=w) (p:=⟨g,17,none⟩) hbb5 hg).trans z5
    go_wp2_with fail
    refine(sIsValidPoint_yes _ (hX2.bl hbb5) (hY2.bl hbb5) v2.out).mono ?_
    rintro e w6 ⟨rfl,hb6⟩
    have hN4:=hN4.bl hb6
    have hR42:=hR41.bl hb6
    have hbb6:=Bl.next hbb5 hb6
    obtain⟨d0,d1,d2⟩:=bx3 hN4
    go_wp2_with fail
    refine(sRatOk_any _ hR42).mono ?_
    rw[v3.out]
    rintro e w7 ⟨rfl,hb7⟩
    have hN4:=hN4.bl hb7
    have hR5:=hR42.bl hb7
    have hbb7:=Bl.next hbb6 hb7
    go_wp2_with fail
    go_ret
    exact⟨ret_bool hv.out.symm,hbb7⟩
  · skip
    go_upto_region 4 with (fail)
    refine wp_gen (fun W3=> Bl w W3∧Blk W3 (w.heap.size) 31 #[.bool s3,.slice A3 n3 c3,.slice B3 m3 d3]∧RdR W3 s3 A3 n3 c3 B3 m3 d3 (dblA p0 p1 p2)) ⟨slc,Wk.put3 hq _ _ _,(((hR.far (by simp) _).far (by simp) _).far (by simp) _).rd⟩ ?_
    clear hR hb2
    rintro W3 ⟨hb3,hN,hD⟩
    have hN4:=hN
    have x0':W3.cell? ⟨g,0,none⟩=some (.bool s):=(Bl.cellOf (w:=w) (p:=⟨g,0,none⟩) hb3 hg).trans x0
    have x1':W3.cell? ⟨g,1,none⟩=some (.slice A n c):=(Bl.cellOf (w:=w) (p:=⟨g,1,none⟩) hb3 hg).trans x1
    have x2':W3.cell? ⟨g,2,none⟩=some (.slice B m d):=(Bl.cellOf (w:=w) (p:=⟨g,2,none⟩) hb3 hg).trans x2
    have x3':W3.cell? ⟨g,3,none⟩=some (.bool t):=(Bl.cellOf (w:=w) (p:=⟨g,3,none⟩) hb3 hg).trans x3
    have x4':W3.cell? ⟨g,4,none⟩=some (.slice C i e):=(Bl.cellOf (w:=w) (p:=⟨g,4,none⟩) hb3 hg).trans x4
    have x5':W3.cell? ⟨g,5,none⟩=some (.slice D j f):=(Bl.cellOf (w:=w) (p:=⟨g,5,none⟩) hb3 hg).trans x5
    go_wp2_with fail
    refine(sIsValidPoint_yes _ (hX0.bl hb3) (hY0.bl hb3) v0.out).mono ?_
    rintro e w4 ⟨rfl,hb4⟩
    have hN4:=hN4.bl hb4
    have hR40:=hD.bl hb4
    have hbb4:=Bl.next hb3 hb4
    have y0':w4.cell? ⟨g,6,none⟩=some (.bool s'):=(Bl.cellOf (w:=w) (p:=⟨g,6,none⟩) hbb4 hg).trans y0
    have y1':w4.cell? ⟨g,7,none⟩=some (.slice A' n' c'):=(Bl.cellOf (w:=w) (p:=⟨g,7,none⟩) hbb4 hg).trans y1
    have y2':w4.cell? ⟨g,8,none⟩=some (.slice B' m' d'):=(Bl.cellOf (w:=w) (p:=⟨g,8,none⟩) hbb4 hg).trans y2
    have y3':w4.cell? ⟨g,9,none⟩=some (.bool t'):=(Bl.cellOf (w:=w) (p:=⟨g,9,none⟩) hbb4 hg).trans y3
    have y4':w4.cell? ⟨g,10,none⟩=some (.slice C' i' e'):=(Bl.cellOf (w:=w) (p:=⟨g,10,none⟩) hbb4 hg).trans y4
    have y5':w4.cell? ⟨g,11,none⟩=some (.slice D' j' f'):=(Bl.cellOf (w:=w) (p:=⟨g,11,none⟩) hbb4 hg).trans y5
    go_wp2_with fail
    refine(sIsValidPoint_yes _ (hX1.bl hbb4) (hY1.bl hbb4) v1.out).mono ?_
    rintro e w5 ⟨rfl,hb5⟩
    have hN4:=hN4.bl hb5
    have hR41:=hR40.bl hb5
    have hbb5:=Bl.next hbb4 hb5
    have z0':w5.cell? ⟨g,12,none⟩=some (.bool s2):=(Bl.cellOf (w:=w) (p:=⟨g,12,none⟩) hbb5 hg).trans z0
    have z1':w5.cell? ⟨g,13,none⟩=some (.slice A2 n2 c2):=(Bl.cellOf (w:=w) (p:=⟨g,13,none⟩) hbb5 hg).trans z1
    have z2':w5.cell? ⟨g,14,none⟩=some (.slice B2 m2 d2):=(Bl.cellOf (w:=w) (p:=⟨g,14,none⟩) hbb5 hg).trans z2
    have z3':w5.cell? ⟨g,15,none⟩=some (.bool t2):=(Bl.cellOf (w:=w) (p:=⟨g,15,none⟩) hbb5 hg).trans z3
    have z4':w5.cell? ⟨g,16,none⟩=some (.slice C2 i2 e2):=(Bl.cellOf (w:=w) (p:=⟨g,16,none⟩) hbb5 hg).trans z4
    have z5':w5.cell? ⟨g,17,none⟩=some (.slice D2 j2 f2):=(Bl.cellOf (w:=w) (p:=⟨g,17,none⟩) hbb5 hg).trans z5
    go_wp2_with fail
    refine(sIsValidPoint_yes _ (hX2.bl hbb5) (hY2.bl hbb5) v2.out).mono ?_
    rintro e w6 ⟨rfl,hb6⟩
    have hN4:=hN4.bl hb6
    have hR42:=hR41.bl hb6
    have hbb6:=Bl.next hbb5 hb6
    obtain⟨d0,d1,d2⟩:=bx3 hN4
    go_wp2_with fail
    refine(sRatOk_any _ hR42).mono ?_
    rw[v3.out]
    rintro e w7 ⟨rfl,hb7⟩
    have hN4:=hN4.bl hb7
    have hR5:=hR42.bl hb7
    have hbb7:=Bl.next hbb6 hb7
    go_wp2_with fail
    go_ret
    exact⟨ret_bool hv.out.symm,hbb7⟩

set_option maxRecDepth 100000 in
set_option maxHeartbeats 8000000 in
theorem sIsProper_4 (w:World) {g c0:Nat}{p0 p1 p2:PtD}(h:RdPS w (some ⟨g,0,none⟩) 3 c0 [p0,p1,p2]) (v0:Hid (OkP p0)) (v1:Hid (OkP p1)) (v2:Hid (OkP p2)) (v3:Hid (okR (dblA p0 p1 p2)=true)) (hv:Hid (propB [p0,p1,p2]=decide (0 < sgnR (dblA p0 p1 p2)))) :
    Calls Tryz.prog 38 #[.slice (some ⟨g,0,none⟩) 3 c0] w fun e w'=> e=.returned (.bool (propB [p0,p1,p2]))∧Bl w w':=by
  obtain⟨_,e0,hg,hc0⟩:=h.cells 0 (by omega)
  cases e0
  rw[Addr.add_lit] at hc0
  obtain⟨s,A,n,c,B,m,d,t,C,i,e,D,j,f,⟨x0,x1,x2,x3,x4,x5⟩,hX0,hY0⟩:=(show PtAt w ⟨g,0,none⟩ p0 from hc0)
  have x0:w.cell? ⟨g,0,none⟩=some (.bool s):=x0
  have x1:w.cell? ⟨g,1,none⟩=some (.slice A n c):=x1
  have x2:w.cell? ⟨g,2,none⟩=some (.slice B m d):=x2
  have x3:w.cell? ⟨g,3,none⟩=some (.bool t):=x3
  have x4:w.cell? ⟨g,4,none⟩=some (.slice C i e):=x4
  have x5:w.cell? ⟨g,5,none⟩=some (.slice D j f):=x5
  obtain⟨_,e0,hg,hc1⟩:=h.cells 1 (by omega)
  cases e0
  rw[Addr.add_lit] at hc1
  obtain⟨s',A',n',c',B',m',d',t',C',i',e',D',j',f',⟨y0,y1,y2,y3,y4,y5⟩,hX1,hY1⟩:=(show PtAt w ⟨g,6,none⟩ p1 from hc1)
  have y0:w.cell? ⟨g,6,none⟩=some (.bool s'):=y0
  have y1:w.cell? ⟨g,7,none⟩=some (.slice A' n' c'):=y1
  have y2:w.cell? ⟨g,8,none⟩=some (.slice B' m' d'):=y2
  have y3:w.cell? ⟨g,9,none⟩=some (.bool t'):=y3
  have y4:w.cell? ⟨g,10,none⟩=some (.slice C' i' e'):=y4
  have y5:w.cell? ⟨g,11,none⟩=some (.slice D' j' f'):=y5
  obtain⟨_,e0,hg,hc2⟩:=h.cells 2 (by omega)
  cases e0
  rw[Addr.add_lit] at hc2
  obtain⟨s2,A2,n2,c2,B2,m2,d2,t2,C2,i2,e2,D2,j2,f2,⟨z0,z1,z2,z3,z4,z5⟩,hX2,hY2⟩:=(show PtAt w ⟨g,12,none⟩ p2 from hc2)
  have z0:w.cell? ⟨g,12,none⟩=some (.bool s2):=z0
  have z1:w.cell? ⟨g,13,none⟩=some (.slice A2 n2 c2):=z1
  have z2:w.cell? ⟨g,14,none⟩=some (.slice B2 m2 d2):=z2
  have z3:w.cell? ⟨g,15,none⟩=some (.bool t2):=z3
  have z4:w.cell? ⟨g,16,none⟩=some (.slice C2 i2 e2):=z4
  have z5:w.cell? ⟨g,17,none⟩=some (.slice D2 j2 f2):=z5
  clear hc0 hc1 hc2
  go_enter Tryz.func38,Tryz.ntmps38
  go_wp2_with fail
  go_region_held3 (fun w' =>(w'.cell? ⟨g,0,none⟩=some (.bool s)∧w'.cell? ⟨g,1,none⟩=some (.slice A n c)∧w'.cell? ⟨g,2,none⟩=some (.slice B m d)∧w'.cell? ⟨g,3,none⟩=some (.bool t)∧w'.cell? ⟨g,4,none⟩=some (.slice C i e)∧w'.cell? ⟨g,5,none⟩=some (.slice D j f))∧(w'.cell? ⟨g,6,none⟩=some (.bool s')∧w'.cell? ⟨g,7,none⟩=some (.slice A' n' c')∧w'.cell? ⟨g,8,none⟩=some (.slice B' m' d')∧w'.cell? ⟨g,9,none⟩=some (.bool t')∧w'.cell? ⟨g,10,none⟩=some (.slice C' i' e')∧w'.cell? ⟨g,11,none⟩=some (.slice D' j' f'))∧(w'.cell? ⟨g,12,none⟩=some (.bool s2)∧w'.cell? ⟨g,13,none⟩=some (.slice A2 n2 c2)∧w'.cell? ⟨g,14,none⟩=some (.slice B2 m2 d2)∧w'.cell? ⟨g,15,none⟩=some (.bool t2)∧w'.cell? ⟨g,16,none⟩=some (.slice C2 i2 e2)∧w'.cell? ⟨g,17,none⟩=some (.slice D2 j2 f2))) (first | exact⟨⟨(Bl.cellOf (w:=w) (p:=⟨g,0,none⟩) slc hg).trans x0,(Bl.cellOf (w:=w) (p:=⟨g,1,none⟩) slc hg).trans x1,(Bl.cellOf (w:=w) (p:=⟨g,2,none⟩) slc hg).trans x2,(Bl.cellOf (w:=w) (p:=⟨g,3,none⟩) slc hg).trans x3,(Bl.cellOf (w:=w) (p:=⟨g,4,none⟩) slc hg).trans x4,(Bl.cellOf (w:=w) (p:=⟨g,5,none⟩) slc hg).trans x5⟩,⟨(Bl.cellOf (w:=w) (p:=⟨g,6,none⟩) slc hg).trans y0,(Bl.cellOf (w:=w) (p:=⟨g,7,none⟩) slc hg).trans y1,(Bl.cellOf (w:=w) (p:=⟨g,8,none⟩) slc hg).trans y2,(Bl.cellOf (w:=w) (p:=⟨g,9,none⟩) slc hg).trans y3,(Bl.cellOf (w:=w) (p:=⟨g,10,none⟩) slc hg).trans y4,(Bl.cellOf (w:=w) (p:=⟨g,11,none⟩) slc hg).trans y5⟩,⟨(Bl.cellOf (w:=w) (p:=⟨g,12,none⟩) slc hg).trans z0,(Bl.cellOf (w:=w) (p:=⟨g,13,none⟩) slc hg).trans z1,(Bl.cellOf (w:=w) (p:=⟨g,14,none⟩) slc hg).trans z2,(Bl.cellOf (w:=w) (p:=⟨g,15,none⟩) slc hg).trans z3,(Bl.cellOf (w:=w) (p:=⟨g,16,none⟩) slc hg).trans z4,(Bl.cellOf (w:=w) (p:=⟨g,17,none⟩) slc hg).trans z5⟩⟩) (first |(go_at_call 47;refine(sDoubleArea_any _ (hX0.bl slc) (hY0.bl slc) (hX1.bl slc) (hY1.bl slc) (hX2.bl slc) (hY2.bl slc)).mono ?_;rintro en w2 ⟨s3,A3,n3,c3,B3,m3,d3,rfl,hR,hb2⟩;(first | have hq:Wk 3 31 _ _:=wk_newd hb2 | have hq:Wk 3 31 _ _:=wk_new hb2 | skip);(try obtain⟨⟨q0,q1,q2⟩,q3,q4,q5⟩:=hq.out3)))
  · skip
    go_upto_region 4 with (fail)
    refine wp_gen (fun W3=> Bl w W3∧Blk W3 (w2.heap.size) 31 #[.bool s3,.slice A3 n3 c3,.slice B3 m3 d3]∧RdR W3 s3 A3 n3 c3 B3 m3 d3 (dblA p0 p1 p2)) ⟨slc,Blk.new _ _ _,hR.rd.bl slc⟩ ?_
    clear hR hb2
    rintro W3 ⟨hb3,hN,hD⟩
    have hN4:=hN
    have x0':W3.cell? ⟨g,0,none⟩=some (.bool s):=(Bl.cellOf (w:=w) (p:=⟨g,0,none⟩) hb3 hg).trans x0
    have x1':W3.cell? ⟨g,1,none⟩=some (.slice A n c):=(Bl.cellOf (w:=w) (p:=⟨g,1,none⟩) hb3 hg).trans x1
    have x2':W3.cell? ⟨g,2,none⟩=some (.slice B m d):=(Bl.cellOf (w:=w) (p:=⟨g,2,none⟩) hb3 hg).trans x2
    have x3':W3.cell? ⟨g,3,none⟩=some (.bool t):=(Bl.cellOf (w:=w) (p:=⟨g,3,none⟩) hb3 hg).trans x3
    have x4':W3.cell? ⟨g,4,none⟩=some (.slice C i e):=(Bl.cellOf (w:=w) (p:=⟨g,4,none⟩) hb3 hg).trans x4
    have x5':W3.cell? ⟨g,5,none⟩=some (.slice D j f):=(Bl.cellOf (w:=w) (p:=⟨g,5,none⟩) hb3 hg).trans x5
    go_wp2_with fail
    refine(sIsValidPoint_yes _ (hX0.bl hb3) (hY0.bl hb3) v0.out).mono ?_
    rintro e w4 ⟨rfl,hb4⟩
    have hN4:=hN4.bl hb4
    have hR40:=hD.bl hb4
    have hbb4:=Bl.next hb3 hb4
    have y0':w4.cell? ⟨g,6,none⟩=some (.bool s'):=(Bl.cellOf (w:=w) (p:=⟨g,6,none⟩) hbb4 hg).trans y0
    have y1':w4.cell? ⟨g,7,none⟩=some (.slice A' n' c'):=(Bl.cellOf (w:=w) (p:=⟨g,7,none⟩) hbb4 hg).trans y1
    have y2':w4.cell? ⟨g,8,none⟩=some (.slice B' m' d'):=(Bl.cellOf (w:=w) (p:=⟨g,8,none⟩) hbb4 hg).trans y2
    have y3':w4.cell? ⟨g,9,none⟩=some (.bool t'):=(Bl.cellOf (w:=w) (p:=⟨g,9,none⟩) hbb4 hg).trans y3
    have y4':w4.cell? ⟨g,10,none⟩=some (.slice C' i' e'):=(Bl.cellOf (w:=w) (p:=⟨g,10,none⟩) hbb4 hg).trans y4
    have y5':w4.cell? ⟨g,11,none⟩=some (.slice D' j' f'):=(Bl.cellOf (w:=w) (p:=⟨g,11,none⟩) hbb4 hg).trans y5
    go_wp2_with fail
    refine(sIsValidPoint_yes _ (hX1.bl hbb4) (hY1.bl hbb4) v1.out).mono ?_
    rintro e w5 ⟨rfl,hb5⟩
    have hN4:=hN4.bl hb5
    have hR41:=hR40.bl hb5
    have hbb5:=Bl.next hbb4 hb5
    have z0':w5.cell? ⟨g,12,none⟩=some (.bool s2):=(Bl.cellOf (w:=w) (p:=⟨g,12,none⟩) hbb5 hg).trans z0
    have z1':w5.cell? ⟨g,13,none⟩=some (.slice A2 n2 c2):=(Bl.cellOf (w:=w) (p:=⟨g,13,none⟩) hbb5 hg).trans z1
    have z2':w5.cell? ⟨g,14,none⟩=some (.slice B2 m2 d2):=(Bl.cellOf (w:=w) (p:=⟨g,14,none⟩) hbb5 hg).trans z2
    have z3':w5.cell? ⟨g,15,none⟩=some (.bool t2):=(Bl.cellOf (w:=w) (p:=⟨g,15,none⟩) hbb5 hg).trans z3
    have z4':w5.cell? ⟨g,16,none⟩=some (.slice C2 i2 e2):=(Bl.cellOf (w:=w) (p:=⟨g,16,none⟩) hbb5 hg).trans z4
    have z5':w5.cell? ⟨g,17,none⟩=some (.slice D2 j2 f2):=(Bl.cellOf (w:=w) (p:=⟨g,17,none⟩) hbb5 hg).trans z5
    go_wp2_with fail
    refine(sIsValidPoint_yes _ (hX2.bl hbb5) (hY2.bl hbb5) v2.out).mono ?_
    rintro e w6 ⟨rfl,hb6⟩
    have hN4:=hN4.bl hb6
    have hR42:=hR41.bl hb6
    have hbb6:=Bl.next hbb5 hb6
    obtain⟨d0,d1,d2⟩:=bx3 hN4
    go_wp2_with fail
    refine(sRatOk_any _ hR42).mono ?_
    rw[v3.out]
    rintro e w7 ⟨rfl,hb7⟩
    have hN4:=hN4.bl hb7
    have hR5:=hR42.bl hb7
    have hbb7:=Bl.next hbb6 hb7
    obtain⟨d0',d1',d2'⟩:=bx3 hN4
    go_wp2_with fail
    refine(sRatSign_any _ hR5).mono ?_
    rintro e w8 ⟨rfl,hb8⟩
    have hbb8:=Bl.next hbb7 hb8
    go_wp2_with fail
    go_ret
    exact⟨ret_bool hv.out.symm,hbb8⟩
  · skip
    go_upto_region 4 with (fail)
    refine wp_gen (fun W3=> Bl w W3∧Blk W3 (w.heap.size) 31 #[.bool s3,.slice A3 n3 c3,.slice B3 m3 d3]∧RdR W3 s3 A3 n3 c3 B3 m3 d3 (dblA p0 p1 p2)) ⟨slc,Wk.put3 hq _ _ _,(((hR.far (by simp) _).far (by simp) _).far (by simp) _).rd⟩ ?_
    clear hR hb2
    rintro W3 ⟨hb3,hN,hD⟩
    have hN4:=hN
    have x0':W3.cell? ⟨g,0,none⟩=some (.bool s):=(Bl.cellOf (w:=w) (p:=⟨g,0,none⟩) hb3 hg).trans x0
    have x1':W3.cell? ⟨g,1,none⟩=some (.slice A n c):=(Bl.cellOf (w:=w) (p:=⟨g,1,none⟩) hb3 hg).trans x1
    have x2':W3.cell? ⟨g,2,none⟩=some (.slice B m d):=(Bl.cellOf (w:=w) (p:=⟨g,2,none⟩) hb3 hg).trans x2
    have x3':W3.cell? ⟨g,3,none⟩=some (.bool t):=(Bl.cellOf (w:=w) (p:=⟨g,3,none⟩) hb3 hg).trans x3
    have x4':W3.cell? ⟨g,4,none⟩=some (.slice C i e):=(Bl.cellOf (w:=w) (p:=⟨g,4,none⟩) hb3 hg).trans x4
    have x5':W3.cell? ⟨g,5,none⟩=some (.slice D j f):=(Bl.cellOf (w:=w) (p:=⟨g,5,none⟩) hb3 hg).trans x5
    go_wp2_with fail
    refine(sIsValidPoint_yes _ (hX0.bl hb3) (hY0.bl hb3) v0.out).mono ?_
    rintro e w4 ⟨rfl,hb4⟩
    have hN4:=hN4.bl hb4
    have hR40:=hD.bl hb4
    have hbb4:=Bl.next hb3 hb4
    have y0':w4.cell? ⟨g,6,none⟩=some (.bool s'):=(Bl.cellOf (w:=w) (p:=⟨g,6,none⟩) hbb4 hg).trans y0
    have y1':w4.cell? ⟨g,7,none⟩=some (.slice A' n' c'):=(Bl.cellOf (w:=w) (p:=⟨g,7,none⟩) hbb4 hg).trans y1
    have y2':w4.cell? ⟨g,8,none⟩=some (.slice B' m' d'):=(Bl.cellOf (w:=w) (p:=⟨g,8,none⟩) hbb4 hg).trans y2
    have y3':w4.cell? ⟨g,9,none⟩=some (.bool t'):=(Bl.cellOf (w:=w) (p:=⟨g,9,none⟩) hbb4 hg).trans y3
    have y4':w4.cell? ⟨g,10,none⟩=some (.slice C' i' e'):=(Bl.cellOf (w:=w) (p:=⟨g,10,none⟩) hbb4 hg).trans y4
    have y5':w4.cell? ⟨g,11,none⟩=some (.slice D' j' f'):=(Bl.cellOf (w:=w) (p:=⟨g,11,none⟩) hbb4 hg).trans y5
    go_wp2_with fail
    refine(sIsValidPoint_yes _ (hX1.bl hbb4) (hY1.bl hbb4) v1.out).mono ?_
    rintro e w5 ⟨rfl,hb5⟩
    have hN4:=hN4.bl hb5
    have hR41:=hR40.bl hb5
    have hbb5:=Bl.next hbb4 hb5
    have z0':w5.cell? ⟨g,12,none⟩=some (.bool s2):=(Bl.cellOf (w:=w) (p:=⟨g,12,none⟩) hbb5 hg).trans z0
    have z1':w5.cell? ⟨g,13,none⟩=some (.slice A2 n2 c2):=(Bl.cellOf (w:=w) (p:=⟨g,13,none⟩) hbb5 hg).trans z1
    have z2':w5.cell? ⟨g,14,none⟩=some (.slice B2 m2 d2):=(Bl.cellOf (w:=w) (p:=⟨g,14,none⟩) hbb5 hg).trans z2
    have z3':w5.cell? ⟨g,15,none⟩=some (.bool t2):=(Bl.cellOf (w:=w) (p:=⟨g,15,none⟩) hbb5 hg).trans z3
    have z4':w5.cell? ⟨g,16,none⟩=some (.slice C2 i2 e2):=(Bl.cellOf (w:=w) (p:=⟨g,16,none⟩) hbb5 hg).trans z4
    have z5':w5.cell? ⟨g,17,none⟩=some (.slice D2 j2 f2):=(Bl.cellOf (w:=w) (p:=⟨g,17,none⟩) hbb5 hg).trans z5
    go_wp2_with fail
    refine(sIsValidPoint_yes _ (hX2.bl hbb5) (hY2.bl hbb5) v2.out).mono ?_
    rintro e w6 ⟨rfl,hb6⟩
    have hN4:=hN4.bl hb6
    have hR42:=hR41.bl hb6
    have hbb6:=Bl.next hbb5 hb6
    obtain⟨d0,d1,d2⟩:=bx3 hN4
    go_wp2_with fail
    refine(sRatOk_any _ hR42).mono ?_
    rw[v3.out]
    rintro e w7 ⟨rfl,hb7⟩
    have hN4:=hN4.bl hb7
    have hR5:=hR42.bl hb7
    have hbb7:=Bl.next hbb6 hb7
    obtain⟨d0',d1',d2'⟩:=bx3 hN4
    go_wp2_with fail
    refine(sRatSign_any _ hR5).mono ?_
    rintro e w8 ⟨rfl,hb8⟩
    have hbb8:=Bl.next hbb7 hb8
    go_wp2_with fail
    go_ret
    exact⟨ret_bool hv.out.symm,hbb8⟩

theorem propB_three {p0 p1 p2:PtD}(h:Prop3 [p0,p1,p2]):OkP p0∧OkP p1∧OkP p2∧0 < sgnR (dblA p0 p1 p2):=by
  obtain⟨hall,a,b,c,e,hs⟩:=h
  injection e with e1 e
  injection e with e2 e
  injection e with e3 e
  subst e1 e2 e3
  exact⟨hall 0 (by simp),hall 1 (by simp),hall 2 (by simp),hs⟩
theorem sIsProper_any (w:World) {g n c0:Nat}{l:List PtD}(h:RdPS w (some ⟨g,0,none⟩) n c0 l) :
    Calls Tryz.prog 38 #[.slice (some ⟨g,0,none⟩) n c0] w fun e w'=> e=.returned (.bool (propB l))∧Bl w w':=by
  have hl:=h.len
  have hsm:=h.small
  by_cases h3:n=3
  · subst h3
    obtain⟨p0,p1,p2,rfl⟩:=len3 hl
    by_cases v0:OkP p0
    · by_cases v1:OkP p1
      · by_cases v2:OkP p2
        · by_cases v3:OkR (dblA p0 p1 p2)
          · refine sIsProper_4 w h v0 v1 v2 (okR_of v3) ?_
            by_cases hs:0 < sgnR (dblA p0 p1 p2)
            · unfold Hid
              rw[propB_yes ⟨?_,p0,p1,p2,rfl,hs⟩]
              · simp[hs]
              · intro k hk
                rcases k with _ | _ | _ | k
                · exact v0
                · exact v1
                · exact v2
                · simp at hk;omega
            · unfold Hid
              rw[propB_no (fun hk=> hs (propB_three hk).2.2.2)]
              simp[hs]
          · exact sIsProper_3 w h v0 v1 v2 (okR_no v3) (propB_no (fun hk=> v3 (sgn_pos_ok (propB_three hk).2.2.2)))
        · exact sIsProper_2 w h v0 v1 v2 (propB_no (fun hk=> v2 (propB_three hk).2.2.1))
      · exact sIsProper_1 w h v0 v1 (propB_no (fun hk=> v1 (propB_three hk).2.1))
    · exact sIsProper_0 w h v0 (propB_no (fun hk=> v0 (propB_three hk).1))
  · have hv:=Lib.hid (propB_no (l:=l) (fun hk=> by
      obtain⟨_,a,b,c,e,_⟩:=hk
      rw[e] at hl
      exact h3 hl.symm))
    have hi:((n:Int) != 3)=true:=by simp;omega
    have hl:=Lib.hid hl;rename_i h_;clear h_
    go_enter Tryz.func38,Tryz.ntmps38
    go_wp2_with fail
    go_ret
    exact⟨ret_bool hv.out.symm,slc⟩
end

end Go.Proofs.YtjaapemopbbfaaaGreat
