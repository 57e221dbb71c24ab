/- Lemmas. -/
import Derived.Test.YtjaapemopbbfaaaGreatRows
import Derived.Test.YtjaapemopbbfaaaGreatPWorstShapeM45
import Derived.Test.YtjaapemopbbfaaaGreatPWorstShapeM33
import Derived.Test.YtjaapemopbbfaaaGreatPWorstShapeM26
import Derived.Test.YtjaapemopbbfaaaGreatPWorstShapeM18
import Derived.Test.YtjaapemopbbfaaaGreatPWorstShapeM34
import Derived.Test.YtjaapemopbbfaaaGreatPWorstShapeM22
namespace Go.Proofs.YtjaapemopbbfaaaGreat
section
open Go.RowKit
set_option maxRecDepth 100000 in
set_option maxHeartbeats 4000000 in
theorem sRatMin_any (w:World) {s:Bool}{A:Option Addr}{n c:Nat}{B:Option Addr}{m d:Nat}{r:RatD}{s':Bool}{A':Option Addr}{n' c':Nat}{B':Option Addr}{m' d':Nat}{r':RatD}(h:RdR w s A n c B m d r) (k:RdR w s' A' n' c' B' m' d' r') :
    Calls Tryz.prog 18 #[.agg #[.bool s,.slice A n c,.slice B m d],.agg #[.bool s',.slice A' n' c',.slice B' m' d']] w fun e w'=> ∃ s1 A1 n1 c1 B1 m1 d1,e=.returned (.agg #[.bool s1,.slice A1 n1 c1,.slice B1 m1 d1])∧OwQ 3 w.heap.size w' s1 A1 n1 c1 B1 m1 d1 (minR r r')∧Bl w w':=by
  by_cases ho:OkR r
  · have hok:=okR_of ho
    by_cases ho':OkR r'
    · have hok':=okR_of ho'
      have hI:=IsR.out h ho
      have hI':=IsR.out k ho'
      have hL:=OkR.lens h ho
      have hL':=OkR.lens k ho'
      have hval:=minR_val ⟨ho,ho'⟩
      clear ho ho'
      generalize hcz:cmpZ (rn r * (rd r':Int)) (rn r' * (rd r:Int))=cz at *
      have hcz:=Lib.hid hcz;rename_i h_;clear h_
      by_cases hge:cz≤0
      · rw[if_pos hge] at hval
        have hval:=Lib.hid hval;rename_i h_;clear h_
        go_enter Tryz.func18,Tryz.ntmps18
        go_wp2_with fail
        refine calls_gen (fun W=> Bl w W∧Blk W (w.heap.size) 31 #[.bool s,.slice A n c,.slice B m d]∧Blk W (w.heap.size+1) 31 #[.bool s',.slice A' n' c',.slice B' m' d']∧Wk 3 31 (w.heap.size+1+1) W) ⟨slc,bts,bts,bts⟩ ?_
        rintro W ⟨hbW,hx,hx',hr⟩
        refine(sRatOk_any _ (h.bl hbW)).mono ?_
        rw[hok]
        rintro e w1 ⟨rfl,hb1⟩
        have hx:=hx.bl hb1
        have hx':=hx'.bl hb1
        have hr:=hr.bl hb1
        have hbW:=hbW.next hb1
        clear hb1
        obtain⟨i0,i1,i2⟩:=bx3 hx
        obtain⟨j0,j1,j2⟩:=bx3 hx'
        go_wp2_with fail
        refine(sRatOk_any _ (k.bl hbW)).mono ?_
        rw[hok']
        rintro e w2 ⟨rfl,hb2⟩
        have hx:=hx.bl hb2
        have hx':=hx'.bl hb2
        have hr:=hr.bl hb2
        have hbW:=hbW.next hb2
        clear hb2
        obtain⟨i0,i1,i2⟩:=bx3 hx
        obtain⟨j0,j1,j2⟩:=bx3 hx'
        go_wp2_with fail
        refine(l04Cmp_any _ (RdR.bl hI hbW) (RdR.bl hI' hbW) (by omega) (by omega) (by omega) (by omega) hL.2.2 hL'.2.2).mono ?_
        rw[hcz.out]
        rintro e w3 ⟨rfl,hb3⟩
        have hx:=hx.bl hb3
        have hx':=hx'.bl hb3
        have hr:=hr.bl hb3
        have hbW:=hbW.next hb3
        clear hb3
        obtain⟨i0,i1,i2⟩:=bx3 hx
        obtain⟨j0,j1,j2⟩:=bx3 hx'
        go_wp2_with fail
        refine(l04Copy_any _ (h.bl hbW) (by omega) (by omega)).mono ?_
        rintro e w4 ⟨s1,A1,n1,c1,B1,m1,d1,rfl,hR,hb4⟩
        have hR:=hR.mono (show w.heap.size+1+1+1≤w3.heap.size from hr.lt)
        rw[← hval.out] at hR
        have hx:=hx.bl hb4
        have hx':=hx'.bl hb4
        have hr:=hr.bl hb4
        have hbW:=hbW.next hb4
        clear hb4
        obtain⟨i0,i1,i2⟩:=bx3 hx
        obtain⟨j0,j1,j2⟩:=bx3 hx'
        obtain⟨v0,x0⟩:=hr.val_ (i:=0) (by omega)
        obtain⟨v1,x1⟩:=hr.val_ (i:=1) (by omega)
        obtain⟨v2,x2⟩:=hr.val_ (i:=2) (by omega)
        have hg:=hr.lt
        obtain⟨cs4,hB4,hc4⟩:=hr
        have hf0:=hB4.frozen 0
        have hf1:=hB4.frozen 1
        have hf2:=hB4.frozen 2
        go_wp2_with fail
        exact bodyPost_ret (v:=.agg #[.bool s1,.slice A1 n1 c1,.slice B1 m1 d1]) (by simp[results,Tryz.results18,go_sem,x0,x1,x2]) rfl ⟨_,_,_,_,_,_,_,rfl,(((hR.far (by simp) _).far (by simp) _).far (by simp) _).mono (by omega),slc⟩
      · rw[if_neg hge] at hval
        have hval:=Lib.hid hval;rename_i h_;clear h_
        have hge:0 < cz:=by omega
        go_enter Tryz.func18,Tryz.ntmps18
        go_wp2_with fail
        refine calls_gen (fun W=> Bl w W∧Blk W (w.heap.size) 31 #[.bool s,.slice A n c,.slice B m d]∧Blk W (w.heap.size+1) 31 #[.bool s',.slice A' n' c',.slice B' m' d']∧Wk 3 31 (w.heap.size+1+1) W) ⟨slc,bts,bts,bts⟩ ?_
        rintro W ⟨hbW,hx,hx',hr⟩
        refine(sRatOk_any _ (h.bl hbW)).mono ?_
        rw[hok]
        rintro e w1 ⟨rfl,hb1⟩
        have hx:=hx.bl hb1
        have hx':=hx'.bl hb1
        have hr:=hr.bl hb1
        have hbW:=hbW.next hb1
        clear hb1
        obtain⟨i0,i1,i2⟩:=bx3 hx
        obtain⟨j0,j1,j2⟩:=bx3 hx'
        go_wp2_with fail
        refine(sRatOk_any _ (k.bl hbW)).mono ?_
        rw[hok']
        rintro e w2 ⟨rfl,hb2⟩
        have hx:=hx.bl hb2
        have hx':=hx'.bl hb2
        have hr:=hr.bl hb2
        have hbW:=hbW.next hb2
        clear hb2
        obtain⟨i0,i1,i2⟩:=bx3 hx
        obtain⟨j0,j1,j2⟩:=bx3 hx'
        go_wp2_with fail
        refine(l04Cmp_any _ (RdR.bl hI hbW) (RdR.bl hI' hbW) (by omega) (by omega) (by omega) (by omega) hL.2.2 hL'.2.2).mono ?_
        rw[hcz.out]
        rintro e w3 ⟨rfl,hb3⟩
        have hx:=hx.bl hb3
        have hx':=hx'.bl hb3
        have hr:=hr.bl hb3
        have hbW:=hbW.next hb3
        clear hb3
        obtain⟨i0,i1,i2⟩:=bx3 hx
        obtain⟨j0,j1,j2⟩:=bx3 hx'
        go_wp2_with fail
        refine(l04Copy_any _ (k.bl hbW) (by omega) (by omega)).mono ?_
        rintro e w4 ⟨s1,A1,n1,c1,B1,m1,d1,rfl,hR,hb4⟩
        have hR:=hR.mono (show w.heap.size+1+1+1≤w3.heap.size from hr.lt)
        rw[← hval.out] at hR
        have hx:=hx.bl hb4
        have hx':=hx'.bl hb4
        have hr:=hr.bl hb4
        have hbW:=hbW.next hb4
        clear hb4
        obtain⟨i0,i1,i2⟩:=bx3 hx
        obtain⟨j0,j1,j2⟩:=bx3 hx'
        obtain⟨v0,x0⟩:=hr.val_ (i:=0) (by omega)
        obtain⟨v1,x1⟩:=hr.val_ (i:=1) (by omega)
        obtain⟨v2,x2⟩:=hr.val_ (i:=2) (by omega)
        have hg:=hr.lt
        obtain⟨cs4,hB4,hc4⟩:=hr
        have hf0:=hB4.frozen 0
        have hf1:=hB4.frozen 1
        have hf2:=hB4.frozen 2
        go_wp2_with fail
        exact bodyPost_ret (v:=.agg #[.bool s1,.slice A1 n1 c1,.slice B1 m1 d1]) (by simp[results,Tryz.results18,go_sem,x0,x1,x2]) rfl ⟨_,_,_,_,_,_,_,rfl,(((hR.far (by simp) _).far (by simp) _).far (by simp) _).mono (by omega),slc⟩
    · have hok':=okR_no ho'
      have hval:=Lib.hid (show minR r r'=zR by unfold minR;rw[if_neg (fun hk=> ho' hk.2)])
      have ho':=Lib.hid ho';rename_i h_;clear h_
      clear ho
      go_enter Tryz.func18,Tryz.ntmps18
      go_wp2_with fail
      refine calls_gen (fun W=> Bl w W∧Blk W (w.heap.size) 31 #[.bool s,.slice A n c,.slice B m d]∧Blk W (w.heap.size+1) 31 #[.bool s',.slice A' n' c',.slice B' m' d']∧Wk 3 31 (w.heap.size+1+1) W) ⟨slc,bts,bts,bts⟩ ?_
      rintro W ⟨hbW,hx,hx',hr⟩
      refine(sRatOk_any _ (h.bl hbW)).mono ?_
      rw[hok]
      rintro e w1 ⟨rfl,hb1⟩
      have hx:=hx.bl hb1
      have hx':=hx'.bl hb1
      have hr:=hr.bl hb1
      have hbW:=hbW.next hb1
      clear hb1
      obtain⟨i0,i1,i2⟩:=bx3 hx
      obtain⟨j0,j1,j2⟩:=bx3 hx'
      go_wp2_with fail
      refine(sRatOk_any _ (k.bl hbW)).mono ?_
      rw[hok']
      rintro e w2 ⟨rfl,hb2⟩
      have hx:=hx.bl hb2
      have hx':=hx'.bl hb2
      have hr:=hr.bl hb2
      have hbW:=hbW.next hb2
      clear hb2
      obtain⟨i0,i1,i2⟩:=bx3 hx
      obtain⟨j0,j1,j2⟩:=bx3 hx'
      obtain⟨v0,x0⟩:=hr.val_ (i:=0) (by omega)
      obtain⟨v1,x1⟩:=hr.val_ (i:=1) (by omega)
      obtain⟨v2,x2⟩:=hr.val_ (i:=2) (by omega)
      have hg:=hr.lt
      obtain⟨cs4,hB4,hc4⟩:=hr
      have hf0:=hB4.frozen 0
      have hf1:=hB4.frozen 1
      have hf2:=hB4.frozen 2
      go_wp2_with fail
      exact bodyPost_ret (v:=.agg #[.bool false,.slice none 0 0,.slice none 0 0]) (by simp[results,Tryz.results18,go_sem,x0,x1,x2]) rfl ⟨_,_,_,_,_,_,_,rfl,by rw[hval.out];exact OwQ.of (OwR.zero _ _ _),slc⟩
  · have hok:=okR_no ho
    have hval:=Lib.hid (show minR r r'=zR by unfold minR;rw[if_neg (fun hk=> ho hk.1)])
    have ho:=Lib.hid ho;rename_i h_;clear h_
    go_enter Tryz.func18,Tryz.ntmps18
    go_wp2_with fail
    refine calls_gen (fun W=> Bl w W∧Blk W (w.heap.size) 31 #[.bool s,.slice A n c,.slice B m d]∧Blk W (w.heap.size+1) 31 #[.bool s',.slice A' n' c',.slice B' m' d']∧Wk 3 31 (w.heap.size+1+1) W) ⟨slc,bts,bts,bts⟩ ?_
    rintro W ⟨hbW,hx,hx',hr⟩
    refine(sRatOk_any _ (h.bl hbW)).mono ?_
    rw[hok]
    rintro e w1 ⟨rfl,hb1⟩
    have hx:=hx.bl hb1
    have hx':=hx'.bl hb1
    have hr:=hr.bl hb1
    have hbW:=hbW.next hb1
    clear hb1
    obtain⟨i0,i1,i2⟩:=bx3 hx
    obtain⟨j0,j1,j2⟩:=bx3 hx'
    obtain⟨v0,x0⟩:=hr.val_ (i:=0) (by omega)
    obtain⟨v1,x1⟩:=hr.val_ (i:=1) (by omega)
    obtain⟨v2,x2⟩:=hr.val_ (i:=2) (by omega)
    have hg:=hr.lt
    obtain⟨cs4,hB4,hc4⟩:=hr
    have hf0:=hB4.frozen 0
    have hf1:=hB4.frozen 1
    have hf2:=hB4.frozen 2
    go_wp2_with fail
    exact bodyPost_ret (v:=.agg #[.bool false,.slice none 0 0,.slice none 0 0]) (by simp[results,Tryz.results18,go_sem,x0,x1,x2]) rfl ⟨_,_,_,_,_,_,_,rfl,by rw[hval.out];exact OwQ.of (OwR.zero _ _ _),slc⟩

/-- A mesh that the reference calls valid. -/
def MeshS (P:List PtD) (ts:List TriD):Prop:=∃ mq:MeQ,P=mq.pts.map tp∧ts=mq.tris∧MeS mq
theorem sIsMesh_y (w:World) {gp n cp gt m ct:Nat}{mq:MeQ}(hp:RdPS w (some ⟨gp,0,none⟩) n cp (mq.pts.map tp)) (ht:RdTS w (some ⟨gt,0,none⟩) m ct mq.tris) (hsz:szL szP (mq.pts.map tp)≤1048576) (hok:MeS mq) :
    Calls Tryz.prog 15 #[.agg #[.slice (some ⟨gp,0,none⟩) n cp,.slice (some ⟨gt,0,none⟩) m ct]] w fun e w'=> e=.returned (.bool true)∧Bl w w':=by
  have hn:mq.pts.length=n:=by rw[← hp.len,List.length_map]
  have hm:mq.tris.length=m:=ht.len
  refine(sIsMesh_m w hp ht (by have:=hok.ptsS;rw[hn,hm] at this;exact this) (by have:=hok.n3;omega) (by have:=hok.n40;omega) (by have:=hok.t1;omega) (by have:=hok.t48;omega) hsz).mono ?_
  rintro e w1 ⟨b,rfl,hb,h⟩
  rw[hb.2 hok]
  exact⟨rfl,h⟩
theorem sIsMesh_n (w:World) {gp n cp gt m ct:Nat}{P:List PtD}{ts:List TriD}(hp:RdPS w (some ⟨gp,0,none⟩) n cp P) (ht:RdTS w (some ⟨gt,0,none⟩) m ct ts) (hsz:szL szP P≤1048576) (hno:¬ MeshS P ts) :
    Calls Tryz.prog 15 #[.agg #[.slice (some ⟨gp,0,none⟩) n cp,.slice (some ⟨gt,0,none⟩) m ct]] w fun e w'=> e=.returned (.bool false)∧Bl w w':=by
  have hms:=ht.small
  by_cases hB:1≤(m:Int)∧(m:Int)≤48
  · by_cases hA:PtsS P ts m n∧3≤n∧n≤40
    · have hl:=hp.len
      obtain⟨q,rfl⟩:=ptsOk_map (ptsS_ok (m:=m) (by rw[hl];exact hA.1))
      refine(sIsMesh_m (mq:=⟨q,ts⟩) w hp ht hA.1 hA.2.1 hA.2.2 (by omega) (by omega) hsz).mono ?_
      rintro e w1 ⟨b,rfl,hb,h⟩
      cases b
      · exact⟨rfl,h⟩
      · exact absurd ⟨_,rfl,rfl,hb.1 rfl⟩ hno
    · have hm48:m≤48:=by omega
      have hB:=Lib.hid hB;rename_i h_;clear h_
      have hA:=Lib.hid hA;rename_i h_;clear h_
      go_enter Tryz.func15,Tryz.ntmps15
      go_upto_region 1 with (fail)
      refine wp_gen (fun W=> Bl w W∧∃ g1,Blk W g1 36 #[.slice (some ⟨gp,0,none⟩) n cp,.slice (some ⟨gt,0,none⟩) m ct]∧g1=w.heap.size) ⟨slc,_,by exact bts,rfl⟩ ?_
      rintro W ⟨hbW,g1,h1,hg1⟩
      rw[← hg1]
      clear hg1
      obtain⟨r0,r1⟩:=bx2 h1
      go_wp2_with fail
      refine(l01In_yes _ (a:=(m:Int)) (lo:=1) (hi:=48) hB.out.1 hB.out.2).mono ?_
      rintro e w1 ⟨rfl,hq1⟩
      have hb1:Bl W w1:=by obtain⟨q1,rfl⟩:=hq1;exact(Bl.refl _).drewN q1
      clear hq1
      obtain⟨r0,r1⟩:=bx2 (h1.bl hb1)
      go_wp2_with fail
      refine(l07Points_q _ (RdPS.bl hp (hbW.next hb1)) (RdTS.bl ht (hbW.next hb1)) hm48).mono ?_
      rintro e w2 ⟨b,rfl,hb,hb2⟩
      have hbf:b=false:=Bool.eq_false_iff.2 fun h=> hA.out (hb.1 h)
      subst hbf
      clear hb
      go_wp2_with fail
      go_ret
      exact⟨rfl,(hbW.next hb1).next hb2⟩
  · have hB:=Lib.hid hB;rename_i h_;clear h_
    go_enter Tryz.func15,Tryz.ntmps15
    go_upto_region 1 with (fail)
    refine wp_gen (fun W=> Bl w W∧∃ g1,Blk W g1 36 #[.slice (some ⟨gp,0,none⟩) n cp,.slice (some ⟨gt,0,none⟩) m ct]∧g1=w.heap.size) ⟨slc,_,by exact bts,rfl⟩ ?_
    rintro W ⟨hbW,g1,h1,hg1⟩
    rw[← hg1]
    clear hg1
    obtain⟨r0,r1⟩:=bx2 h1
    go_wp2_with fail
    refine(l01In_no _ (a:=(m:Int)) (lo:=1) (hi:=48) hB.out).mono ?_
    rintro e w1 ⟨rfl,hq1⟩
    have hb1:Bl W w1:=by obtain⟨q1,rfl⟩:=hq1;exact(Bl.refl _).drewN q1
    clear hq1
    go_wp2_with fail
    go_ret
    exact⟨rfl,hbW.next hb1⟩
def RatRS (w:World) (r:RatD) (e:Ending) (w':World):Prop:=∃ s1 A1 n1 c1 B1 m1 d1,e=.returned (.agg #[.bool s1,.slice A1 n1 c1,.slice B1 m1 d1])∧RdR w' s1 A1 n1 c1 B1 m1 d1 r∧Bl w w'
theorem sWorstShape_no (w:World) {gp n cp gt m ct:Nat}{P:List PtD}{ts:List TriD}(hp:RdPS w (some ⟨gp,0,none⟩) n cp P) (ht:RdTS w (some ⟨gt,0,none⟩) m ct ts) (hsz:szL szP P≤1048576) (hno:¬ MeshS P ts) :
    Calls Tryz.prog 5 #[.agg #[.slice (some ⟨gp,0,none⟩) n cp,.slice (some ⟨gt,0,none⟩) m ct]] w (RatRS w zR):=by
  have hno:=Lib.hid hno;rename_i h_;clear h_
  go_enter Tryz.func5,Tryz.ntmps5
  go_wp2_with fail
  refine calls_gen (fun W=> Bl w W∧Wk 3 31 (w.heap.size+1) W) ⟨slc,bts⟩ ?_
  rintro W ⟨hbW,hr⟩
  refine(sIsMesh_n _ (RdPS.bl hp hbW) (RdTS.bl ht hbW) hsz hno.out).mono ?_
  rintro e w1 ⟨rfl,hb1⟩
  have hr:=hr.bl hb1
  have hbW:=hbW.next hb1
  clear hb1
  obtain⟨v0,x0⟩:=hr.val_ (i:=0) (by omega)
  obtain⟨v1,x1⟩:=hr.val_ (i:=1) (by omega)
  obtain⟨v2,x2⟩:=hr.val_ (i:=2) (by omega)
  have hg:=hr.lt
  obtain⟨cs4,hB4,hc4⟩:=hr
  have hf0:=hB4.frozen 0
  have hf1:=hB4.frozen 1
  have hf2:=hB4.frozen 2
  go_wp2_with fail
  exact bodyPost_ret (v:=.agg #[.bool false,.slice none 0 0,.slice none 0 0]) (by simp[results,Tryz.results5,go_sem,x0,x1,x2]) rfl ⟨_,_,_,_,_,_,_,rfl,(OwR.zero 3 0 _).rd,slc⟩

theorem FrPS.lit3 {lo:Nat}{w:World}{A:Option Addr}{n c:Nat}{p q r:PtD}(h:FrPS lo w A n c [p,q,r]):∃ g,A=some ⟨g,0,none⟩∧n=3:=by
  have h1:=h.rd.len
  rcases h.1 with h2 |⟨g,rfl,_⟩
  · subst h2;cases h1
  · exact⟨g,rfl,h1.symm⟩
set_option maxRecDepth 100000 in
set_option maxHeartbeats 32000000 in
theorem sWorstShape_yes (w:World) {gp n cp gt m ct:Nat}{mq:MeQ}(hp:RdPS w (some ⟨gp,0,none⟩) n cp (mq.pts.map tp)) (ht:RdTS w (some ⟨gt,0,none⟩) m ct mq.tris) (hok:MeS mq) (hsz:szL szP (mq.pts.map tp)≤1048576) :
    Calls Tryz.prog 5 #[.agg #[.slice (some ⟨gp,0,none⟩) n cp,.slice (some ⟨gt,0,none⟩) m ct]] w (RatRS w (wsG mq m)):=by
  have hm48:m≤48:=by have:=hok.t48;rw[ht.len] at this;exact this
  have hm0:1≤m:=by have:=hok.t1;rw[ht.len] at this;exact this
  have hn:=Lib.hid (show mq.pts.length=n by rw[← hp.len,List.length_map])
  have hm:=Lib.hid ht.len
  have hok:=Lib.hid hok;rename_i h_;clear h_
  have hcp:=ht.cap
  go_enter Tryz.func5,Tryz.ntmps5
  go_wp2_with fail
  refine calls_gen (fun W=> Bl w W∧Blk W w.heap.size 36 #[.slice (some ⟨gp,0,none⟩) n cp,.slice (some ⟨gt,0,none⟩) m ct]∧Wk 3 31 (w.heap.size+1) W) ⟨slc,bts,bts⟩ ?_
  rintro W ⟨hbW,h1,hr⟩
  refine(sIsMesh_y _ (RdPS.bl hp hbW) (RdTS.bl ht hbW) hsz hok.out).mono ?_
  rintro e w1 ⟨rfl,hb1⟩
  have h1:=h1.bl hb1
  have hr:=hr.bl hb1
  have hbW:=hbW.next hb1
  clear hb1
  obtain⟨r0,r1⟩:=bx2 h1
  go_wp2_with fail
  have hr0:=hr.lt
  refine(sCorners_fr (x:=⟨mq.pts.map tp,mq.tris⟩) _ 0 (RdPS.bl hp hbW) (RdTS.bl ht hbW) hsz).mono ?_
  rw[show cornL ⟨mq.pts.map tp,mq.tris⟩ 0=[tp (kA mq 0),tp (kB mq 0),tp (kC mq 0)] from cornL_k (k:=0) hok.out.ixs (by rw[hm.out];omega)]
  rintro e w3 ⟨A3,n3,c3,rfl,hO3,hb3⟩
  obtain⟨g3',rfl,rfl⟩:=hO3.lit3
  clear r0 r1
  go_wp2_with fail
  refine(sShapeOf_any _ hO3.rd).mono ?_
  rintro e w4 ⟨s4,A4,n4,c4,B4,m4,d4,rfl,hR4,hb4⟩
  have h1:=h1.bl (hb3.next hb4)
  have hr:=hr.bl (hb3.next hb4)
  have hbW:=hbW.next (hb3.next hb4)
  have hrl:=hr.lt
  have hw3:=Lib.hid (show w.heap.size+2≤w3.heap.size by have h3:=hb3.size;have h4:=hr0;omega)
  clear hb3 hb4 hO3
  go_upto_region 4 with (fail)
  refine wp_gen (fun W=> Bl w4 W∧∃ g3,Blk W g3 31 #[.bool s4,.slice A4 n4 c4,.slice B4 m4 d4]∧g3=w4.heap.size) ⟨by exact slc,_,by exact bts,rfl⟩ ?_
  rintro W4 ⟨hb4,g3,h3,hg3⟩
  rw[← hg3]
  have hgl:w.heap.size+1 < g3:=by omega
  have h1:=h1.bl hb4
  have hr:=hr.bl hb4
  have hbW:=hbW.next hb4
  have hF3:OwQ 3 (w.heap.size+2) W4 s4 A4 n4 c4 B4 m4 d4 (wsG mq 0):=((OwQ.of hR4).bl hb4).mono hw3.out
  clear hg3 hb4 hR4 hrl
  obtain⟨r0,r1⟩:=bx2 h1
  go_wp2_with fail
  clear r0 r1
  go_loopw [15] (fun x wr=> ∃ (k:Nat) (s7:Bool) (A7:Option Addr) (n7 c7:Nat) (B7:Option Addr) (m7 d7:Nat),k≤m∧x=.int .i64 (k:Int)∧Blk wr g3 31 #[.bool s7,.slice A7 n7 c7,.slice B7 m7 d7]∧OwQ 3 (w.heap.size+2) wr s7 A7 n7 c7 B7 m7 d7 (wsG mq k)∧Ob [g3] W4 wr) (fun x _=> m - (intOf x).toNat)
  case atStart=> exact⟨0,_,_,_,_,_,_,_,by omega,rfl,h3,hF3,Ob.refl _ _⟩
  case round =>
    clear h3 hF3
    obtain⟨k,s7,A7,n7,c7,B7,m7,d7,hk,rfl,h3,hF3,hO⟩:=hrel
    obtain⟨wi,rfl⟩:∃ wi:World,wi=wr:=⟨_,rfl⟩
    have hbj:Bl w wi:=hbW.ob hO (fun b hb=> by simp at hb;omega)
    have h1:=h1.ob hO (by simp;omega)
    by_cases hkm:k < m
    · have hki:(k:Int) < (m:Int):=by omega
      have hkl:k < mq.tris.length:=by rw[hm.out];exact hkm
      have hcK:=Lib.hid (cornL_k (k:=k) hok.out.ixs hkl)
      clear hkl
      have h3l:=h3.lt
      go_upto_region 7 with (fail)
      have hHeld:(fun w' =>(w'.cell? ⟨g3,0,none⟩=some (.bool s7)∧w'.cell? ⟨g3,1,none⟩=some (.slice A7 n7 c7)∧w'.cell? ⟨g3,2,none⟩=some (.slice B7 m7 d7))∧(w'.cell? ⟨w.heap.size,0,none⟩=some (.slice (some ⟨gp,0,none⟩) n cp)∧w'.cell? ⟨w.heap.size,1,none⟩=some (.slice (some ⟨gt,0,none⟩) m ct))) (wi.drew):=⟨bx3 (T:=31) (h3.bl slc),bx2 (T:=36) (h1.bl slc)⟩
      refine wp_region_T 6 7 (fun w' =>(w'.cell? ⟨g3,0,none⟩=some (.bool s7)∧w'.cell? ⟨g3,1,none⟩=some (.slice A7 n7 c7)∧w'.cell? ⟨g3,2,none⟩=some (.slice B7 m7 d7))∧(w'.cell? ⟨w.heap.size,0,none⟩=some (.slice (some ⟨gp,0,none⟩) n cp)∧w'.cell? ⟨w.heap.size,1,none⟩=some (.slice (some ⟨gt,0,none⟩) m ct))) rfl (by kernel_rfl) hHeld ?_
      refine wpAnyT_take (i:=0) (oi:=_) (v:=?_) (fuel:=6) rfl (by kernel_rfl) (by kernel_rfl) (by kernel_rfl) (by kernel_rfl) (fun _ _ _ h=> h) (by rfl) ?_ hHeld ?_
      rotate_left 1
      · (intro w' hSw;(try dsimp only at hSw);go_simp <;> with_reducible rfl)
      refine wpAnyT_take (i:=1) (oi:=_) (v:=?_) (fuel:=5) rfl (by kernel_rfl) (by kernel_rfl) (by kernel_rfl) (by kernel_rfl) (fun _ _ _ h=> h) (by rfl) ?_ hHeld ?_
      rotate_left 1
      · (intro w' hSw;(try dsimp only at hSw);go_simp <;> with_reducible rfl)
      refine wpAnyT_take (i:=2) (oi:=_) (v:=?_) (fuel:=4) rfl (by kernel_rfl) (by kernel_rfl) (by kernel_rfl) (by kernel_rfl) (fun _ _ _ h=> h) (by rfl) ?_ hHeld ?_
      rotate_left 1
      · (intro w' hSw;(try dsimp only at hSw);go_simp <;> with_reducible rfl)
      clear hHeld
      simp only[Act.put,List.setIfInBounds_toArray]
      refine wpAnyT_step (i:=3) (o:=_) (fuel:=3) rfl (by kernel_rfl) (fun K hK=> ?_)
      go_simp
      refine(sCorners_fr (x:=⟨mq.pts.map tp,mq.tris⟩) _ (k:Int) (RdPS.bl hp (hbj.next (show Bl wi _ from slc))) (RdTS.bl ht (hbj.next (show Bl wi _ from slc))) hsz).mono ?_
      rw[hcK.out]
      rintro e w5 ⟨A5,n5,c5,rfl,hO5,hb5⟩
      obtain⟨g5,rfl,rfl⟩:=hO5.lit3
      have hb5:Bl wi w5:=(Bl.drew (Bl.refl wi)).next hb5
      refine hK.out _ _ (fun _ =>⟨bx3 (T:=31) (h3.bl slc),bx2 (T:=36) (h1.bl slc)⟩) ?_
      clear hK K
      try simp only[Act.put,List.setIfInBounds_toArray,List.set_cons_zero,List.set_cons_succ]
      refine wpAnyT_step (i:=4) (o:=_) (fuel:=2) rfl (by kernel_rfl) (fun K hK=> ?_)
      go_simp
      refine(sShapeOf_any _ hO5.rd).mono ?_
      rintro e w6 ⟨s6,A6,n6,c6,B6,m6,d6,rfl,hR6,hb6⟩
      have hb6:Bl wi w6:=hb5.next hb6
      refine hK.out _ _ (fun _ =>⟨bx3 (T:=31) (h3.bl slc),bx2 (T:=36) (h1.bl slc)⟩) ?_
      clear hK K
      try simp only[Act.put,List.setIfInBounds_toArray,List.set_cons_zero,List.set_cons_succ]
      refine wpAnyT_step (i:=5) (o:=_) (fuel:=1) rfl (by kernel_rfl) (fun K hK=> ?_)
      go_simp
      have hw8:=Lib.hid (fun (X:World) (h:Bl wi X) =>(show w.heap.size+2≤X.heap.size by have h2:=h.size;have h5:=h3l;omega))
      refine(sRatMin_any _ (hF3.rd.bl slc) hR6.rd).mono ?_
      rintro e w7 ⟨s8,A8,n8,c8,B8,m8,d8,rfl,hRn,hb7⟩
      have hb7:Bl wi w7:=hb6.next hb7
      refine hK.out _ _ (fun _ =>⟨bx3 (T:=31) (h3.bl slc),bx2 (T:=36) (h1.bl slc)⟩) ?_
      clear hK K
      try simp only[Act.put,List.setIfInBounds_toArray,List.set_cons_zero,List.set_cons_succ]
      have h3:=h3.bl hb7
      obtain⟨z0',z1',z2'⟩:=bx3 h3
      have zf0:=h3.frozen 0
      have zf1:=h3.frozen 1
      have zf2:=h3.frozen 2
      refine wpAnyT_step (i:=6) (o:=_) (fuel:=0) rfl (by kernel_rfl) (fun K hK=> ?_)
      go_simp
      refine hK.out _ _ (fun h=> absurd rfl h) ?_
      clear hK K
      try simp only[Act.put,List.setIfInBounds_toArray]
      refine wpAnyT_done (by kernel_rfl) ?_
      have hg6:g3 < w6.heap.size:=Nat.lt_of_lt_of_le h3l hb6.size
      have hF3:=(((hRn.far (q:=⟨g3,0,none⟩) hg6 (.bool s8)).far (q:=⟨g3,1,none⟩) hg6 (.slice A8 n8 c8)).far (q:=⟨g3,2,none⟩) hg6 (.slice B8 m8 d8)).mono (hw8.out w6 hb6)
      have h3:Blk (((w7.setCell ⟨g3,0,none⟩ (.bool s8)).setCell ⟨g3,1,none⟩ (.slice A8 n8 c8)).setCell ⟨g3,2,none⟩ (.slice B8 m8 d8)) g3 31 #[.bool s8,.slice A8 n8 c8,.slice B8 m8 d8]:=by simpa using ((h3.set_ 0 (.bool s8)).set_ 1 (.slice A8 n8 c8)).set_ 2 (.slice B8 m8 d8)
      have hOz:Ob [g3] W4 (((w7.setCell ⟨g3,0,none⟩ (.bool s8)).setCell ⟨g3,1,none⟩ (.slice A8 n8 c8)).setCell ⟨g3,2,none⟩ (.slice B8 m8 d8)):=(((hO.trans (Ob.of_bl hb7 _)).set (by simp) 0 _).set (by simp) 1 _).set (by simp) 2 _
      generalize (((w7.setCell ⟨g3,0,none⟩ (.bool s8)).setCell ⟨g3,1,none⟩ (.slice A8 n8 c8)).setCell ⟨g3,2,none⟩ (.slice B8 m8 d8))=wz at hF3 h3 hOz ⊢
      clear hRn hb7
      go_wp2_with fail
      go_roundw
      case rel=> exact⟨k+1,_,_,_,_,_,_,_,by omega,by go_num,h3,hF3,hOz⟩
      case measure=> simp[intOf];omega
    · obtain rfl:k=m:=by omega
      have hkm2:¬ (k:Int) < (k:Int):=by omega
      have hr:=hr.ob hO (by simp;omega)
      have hF:=((hF3.far (q:=⟨w.heap.size+1,0,none⟩) (by simp) (.bool s7)).far (q:=⟨w.heap.size+1,1,none⟩) (by simp) (.slice A7 n7 c7)).far (q:=⟨w.heap.size+1,2,none⟩) (by simp) (.slice B7 m7 d7)
      obtain⟨i0,i1,i2⟩:=bx3 h3
      obtain⟨v0,x0⟩:=hr.val_ (i:=0) (by omega)
      obtain⟨v1,x1⟩:=hr.val_ (i:=1) (by omega)
      obtain⟨v2,x2⟩:=hr.val_ (i:=2) (by omega)
      have hg:=hr.lt
      obtain⟨cs4,hB4,hc4⟩:=hr
      have hf0:=hB4.frozen 0
      have hf1:=hB4.frozen 1
      have hf2:=hB4.frozen 2
      go_wp2_with fail
      exact bodyPost_ret (v:=.agg #[.bool s7,.slice A7 n7 c7,.slice B7 m7 d7]) (by simp[results,Tryz.results5,go_sem,x0,x1,x2]) rfl ⟨_,_,_,_,_,_,_,rfl,by exact hF.rd,slc⟩
end

section
open Go.RowKit

theorem len24_minR {r s:RatD}(hr:r.mag.length≤24∧r.den.length≤24) (hs:s.mag.length≤24∧s.den.length≤24):(minR r s).mag.length≤24∧(minR r s).den.length≤24:=by
  unfold minR
  split
  · split
    · exact hr
    · exact hs
  · exact len24_zR
theorem len24_wsG (mq:MeQ):∀ k,(wsG mq k).mag.length≤24∧(wsG mq k).den.length≤24
  | 0=> len24_shapeL _
  | k+1=> len24_minR (len24_wsG mq k) (len24_shapeL _)
/-- Both sides return the fraction r for a mesh of these points and triangles. -/
def WsW (P:List PtD) (ts:List TriD) (r:RatD):Prop :=
  (∀ (w:World) (gp n cp gt m ct:Nat),RdPS w (some ⟨gp,0,none⟩) n cp P→RdTS w (some ⟨gt,0,none⟩) m ct ts→Calls Tryz.prog 5 #[.agg #[.slice (some ⟨gp,0,none⟩) n cp,.slice (some ⟨gt,0,none⟩) m ct]] w (RatRS w r)) ∧
  (∀ (w:World) (gp n cp gt m ct:Nat),RdPS w (some ⟨gp,0,none⟩) n cp P→RdTS w (some ⟨gt,0,none⟩) m ct ts→Calls Tryz.prog 7 #[.agg #[.slice (some ⟨gp,0,none⟩) n cp,.slice (some ⟨gt,0,none⟩) m ct]] w (RatOS w r))∧r.mag.length≤24∧r.den.length≤24
theorem WsW.spec {P:List PtD}{ts:List TriD}{r:RatD}(h:WsW P ts r) (w:World) {gp n cp gt m ct:Nat}(hp:RdPS w (some ⟨gp,0,none⟩) n cp P) (ht:RdTS w (some ⟨gt,0,none⟩) m ct ts):Calls Tryz.prog 5 #[.agg #[.slice (some ⟨gp,0,none⟩) n cp,.slice (some ⟨gt,0,none⟩) m ct]] w (RatRS w r):=h.1 w gp n cp gt m ct hp ht
theorem WsW.impl {P:List PtD}{ts:List TriD}{r:RatD}(h:WsW P ts r) (w:World) {gp n cp gt m ct:Nat}(hp:RdPS w (some ⟨gp,0,none⟩) n cp P) (ht:RdTS w (some ⟨gt,0,none⟩) m ct ts):Calls Tryz.prog 7 #[.agg #[.slice (some ⟨gp,0,none⟩) n cp,.slice (some ⟨gt,0,none⟩) m ct]] w (RatOS w r):=h.2.1 w gp n cp gt m ct hp ht
/-- The two sides return the same. -/
theorem ws_word (P:List PtD) (ts:List TriD) (hsz:szL szP P≤1048576):∃ r,WsW P ts r:=by
  by_cases hS:MeshS P ts
  · obtain⟨mq,rfl,rfl,hm⟩:=hS
    refine⟨wsG mq mq.tris.length,fun w gp n cp gt m ct hp ht=> ?_,fun w gp n cp gt m ct hp ht=> ?_,len24_wsG _ _⟩
    · rw[ht.len]
      exact sWorstShape_yes w hp ht hm hsz
    · rw[ht.len]
      exact WorstShape_yes w hp ht hm.toI hsz
  · refine⟨zR,fun w gp n cp gt m ct hp ht=> sWorstShape_no w hp ht hsz hS,fun w gp n cp gt m ct hp ht=> ?_,len24_zR⟩
    by_cases hI:MeshI P ts
    · obtain⟨mq,rfl,rfl,hm⟩:=hI
      rw[← hm.zero (fun h=> hS ⟨mq,rfl,rfl,h⟩),ht.len]
      exact WorstShape_yes w hp ht hm hsz
    · exact WorstShape_no w hp ht hI
theorem OwMX.some {lo hi:Nat}{w:World}{A:Option Addr}{n c:Nat}{B:Option Addr}{m d:Nat}{x:MeD}(h:OwMX lo hi w A n c B m d x):∃ g g',A=Option.some ⟨g,0,none⟩∧B=Option.some ⟨g',0,none⟩:=by
  obtain⟨g,g',cs,cs',fs,e1,e2,_⟩:=h
  exact⟨g,g',e1,e2⟩

set_option maxRecDepth 100000 in
set_option maxHeartbeats 16000000 in
theorem FnExactWorstShape_any (w:World) {A:Option Addr}{n c:Nat}{B:Option Addr}{m d:Nat}{x:MeD}(ha:RdPS w A n c x.points) (hk:RdTS w B m d x.tris) :
    Calls Tryz.prog 3 #[.agg #[.slice A n c,.slice B m d]] w fun e w'=> e=.returned (.bool true)∧Bl w w':=by
  by_cases s1:((szM x:Nat):Int)≤1048576
  · have e1:=lft_yes s1
    have p1:¬ 1048576 - ((szM x:Nat):Int) < 0:=by omega
    have hsz:szM x≤1048576:=by omega
    have hsp:szL szP x.points≤1048576:=by unfold szM at hsz;omega
    have hm8:m≤1048576:=by have:=hk.len;unfold szM at hsz;omega
    obtain⟨r,hW⟩:=ws_word x.points x.tris hsp
    have h24:=hW.2.2
    have e1:=Lib.hid e1;rename_i h_;clear h_
    go_enter Tryz.func3,Tryz.ntmps3
    go_wp2_with fail
    refine(szMesh_any _ (RdPS.bl ha slc) (RdTS.bl hk slc) (by omega) (by omega)).mono ?_
    rw[e1.out]
    rintro e w1 ⟨rfl,hb1⟩
    have hx0:Blk w1 w.heap.size 25 #[.slice A n c,.slice B m d]:=(Blk.new w _ _).bl hb1
    have hbb:Bl w w1:=((Bl.refl w).alloc _).next hb1
    clear hb1
    obtain⟨j0,j1⟩:=bx2 hx0
    go_wp2_with fail
    refine(toMesh_any _ (x:=x) (RdPS.bl ha hbb) (RdTS.bl hk hbb) hsz).mono ?_
    rintro e w2 ⟨P2,Q2,rfl,hO2,hb2⟩
    clear j0 j1
    replace hx0:=hx0.bl hb2
    replace hbb:=hbb.next hb2
    obtain⟨p2,q2,rfl,rfl⟩:=(OwMX.of hO2).some
    go_wp2_with fail
    refine(hW.spec _ hO2.rdP hO2.rdT).mono ?_
    rintro e w3 ⟨s3,A3,n3,c3,B3,m3,d3,rfl,hR3,hb3⟩
    clear hO2
    replace hx0:=(hx0.bl hb3).alloc (.cells #[.bool s3,.slice A3 n3 c3,.slice B3 m3 d3] 31)
    replace hbb:=hbb.next hb3
    obtain⟨j0,j1⟩:=bx2 hx0
    go_wp2_with fail
    have z3:=hbb.size
    have z30:=hx0.lt
    refine(toMesh_any _ (x:=x) (RdPS.bl ha (hbb.alloc _)) (RdTS.bl hk (hbb.alloc _)) hsz).mono ?_
    rintro e w4 ⟨P4,Q4,rfl,hO4,hb4⟩
    clear j0 j1
    have hs:Bl (w3.alloc (.cells #[.bool s3,.slice A3 n3 c3,.slice B3 m3 d3] 31)) w4:=hb4
    replace hx0:=hx0.bl hb4
    replace hb4:=((Bl.refl w3).alloc _).next hb4
    replace hbb:=hbb.next hb4
    have z4:w3.heap.size+1≤w4.heap.size:=by have:=hs.size;simp at this;omega
    replace hO4:=OwMX.of (hO4.low (b0:=w3.heap.size+1) (by simp))
    obtain⟨p4,q4,rfl,rfl⟩:=hO4.some
    go_wp2_with fail
    refine calls_gen (fun W=> Blk W w4.heap.size 36 #[.slice (some ⟨p4,0,none⟩) n n,.slice (some ⟨q4,0,none⟩) m m]∧Bl w4 W) ⟨Blk.new _ _ _,slc⟩ ?_
    rintro W ⟨hxX,hb4'⟩
    replace hx0:=hx0.bl hb4'
    replace hO4:=hO4.bl hb4'
    replace hbb:=hbb.next hb4'
    replace hs:=hs.next hb4'
    refine(hW.impl _ hO4.rdP hO4.rdT).mono ?_
    rintro e w5 ⟨s5,A5,n5,c5,B5,m5,d5,rfl,hR5,hb5⟩
    have z5:=hb5.size
    have zW:w4.heap.size < W.heap.size:=hxX.lt
    replace hR5:=OwX.of hR5
    replace hx0:=hx0.bl hb5
    replace hO4:=hO4.bl hb5
    replace hxX:=hxX.bl hb5
    replace hbb:=hbb.next hb5
    replace hs:=hs.next hb5
    have hx3:Blk _ w3.heap.size 31 #[.bool s3,.slice A3 n3 c3,.slice B3 m3 d3]:=((Blk.new w3 _ _).bl hs).alloc (.cells #[.bool s5,.slice A5 n5 c5,.slice B5 m5 d5] 31)
    obtain⟨i30,i31,i32⟩:=bx3 hx3
    go_wp2_with fail
    refine(eqRat_any _ (hR5.rd.alloc _) (((hR3.alloc _).bl hs).alloc _)).mono ?_
    rintro e w6 ⟨rfl,hb6⟩
    clear hx3 i30 i31 i32
    have hx5:Blk w6 w5.heap.size 31 #[.bool s5,.slice A5 n5 c5,.slice B5 m5 d5]:=(Blk.new _ _ _).bl hb6
    replace hb6:=((Bl.refl w5).alloc _).next hb6
    have z6:w5.heap.size+1≤w6.heap.size:=hx5.lt
    replace hx0:=hx0.bl hb6
    replace hO4:=hO4.bl hb6
    replace hxX:=hxX.bl hb6
    replace hR5:=hR5.bl hb6
    replace hbb:=hbb.next hb6
    replace hs:=hs.next hb6
    go_wp2_with fail
    go_region_held3 (fun w' =>(w'.cell? ⟨w.heap.size,0,none⟩=some (.slice A n c)∧w'.cell? ⟨w.heap.size,1,none⟩=some (.slice B m d))∧(w'.cell? ⟨w4.heap.size,0,none⟩=some (.slice (some ⟨p4,0,none⟩) n n)∧w'.cell? ⟨w4.heap.size,1,none⟩=some (.slice (some ⟨q4,0,none⟩) m m))) (first | exact⟨bx2 (T:=25) (hx0.bl slc),bx2 (T:=36) (hxX.bl slc)⟩) (first |(go_at_call 6;(with_reducible refine(toMesh_any _ (x:=x) (RdPS.bl ha (hbb.next slc)) (RdTS.bl hk (hbb.next slc)) hsz).mono ?_);rintro e w7 ⟨P7,Q7,rfl,hO7,hb7⟩) |(go_at_call 9;(with_reducible refine(eqMesh_any _ (x:=x) (RdPS.bl hO4.rdP slc) (RdTS.bl hO4.rdT slc) (hO7.rdP.bl slc) (hO7.rdT.bl slc)).mono ?_);rintro e w8 ⟨rfl,hb8⟩))
    have hb68:Bl w6 w8:=slc
    have z8:=hb68.size
    clear hO7 hb7 hb8
    replace hx0:=hx0.bl hb68
    replace hO4:=hO4.bl hb68
    replace hxX:=hxX.bl hb68
    replace hR5:=hR5.bl hb68
    replace hx5:=hx5.bl hb68
    replace hbb:=hbb.next hb68
    replace hs:=hs.next hb68
    obtain⟨i0,i1⟩:=bx2 hxX
    go_wp2_with fail
    refine(markMesh_z _ hO4 hsp (by omega) (by omega) (by omega)).mono ?_
    rintro e w9 ⟨K9,rfl,hK9,bs9,hs9,hO9⟩
    clear i0 i1
    clear hO4
    clear hxX
    replace hx0:=hx0.ob hO9 (fun hm=> by have:=hs9 _ hm;omega)
    replace hR5:=hR5.ob hO9 (fun b hm=> by have:=hs9 b hm;omega)
    replace hx5:=hx5.ob hO9 (fun hm=> by have:=hs9 _ hm;omega)
    replace hbb:=hbb.ob hO9 (fun b hm=> by have:=hs9 b hm;omega)
    replace hs:=hs.ob hO9 (fun b hm=> by have:=hs9 b hm;simp;omega)
    clear hs9 hO9
    have hK:¬ K9 < 0:=by omega
    have hx3:Blk _ w3.heap.size 31 #[.bool s3,.slice A3 n3 c3,.slice B3 m3 d3]:=(Blk.new w3 _ _).bl hs
    obtain⟨i30,i31,i32⟩:=bx3 hx3
    obtain⟨i50,i51,i52⟩:=bx3 hx5
    go_wp2_with fail
    refine(eqRat_any _ hR5.rd ((hR3.alloc _).bl hs)).mono ?_
    rintro e w10 ⟨rfl,hb10⟩
    clear i50 i51 i52
    clear hx3 i30 i31 i32
    replace hx0:=hx0.bl hb10
    replace hR5:=hR5.bl hb10
    replace hx5:=hx5.bl hb10
    replace hbb:=hbb.next hb10
    replace hs:=hs.next hb10
    obtain⟨bs11,hF5,hf5⟩:=hR5
    have l5:=Lib.hid hF5.rd.mag.len
    have l5':=Lib.hid hF5.rd.den.len
    have hn5:n5≤1048576:=by rw[← l5.out];omega
    have hm5:m5≤1048576:=by rw[← l5'.out];omega
    obtain⟨i50,i51,i52⟩:=bx3 hx5
    go_wp2_with fail
    refine(markRat_any _ hF5 hf5.1 hn5 hm5 (by omega) (by omega)).mono ?_
    rintro e w11 ⟨rfl,hA11,hB11,hO11⟩
    clear i50 i51 i52
    have hs11:=hf5.2
    replace hx0:=hx0.ob hO11 (fun hm=> by have:=hs11 _ hm;omega)
    replace hx5:=hx5.ob hO11 (fun hm=> by have:=hs11 _ hm;omega)
    replace hbb:=hbb.ob hO11 (fun b hm=> by have:=hs11 b hm;omega)
    replace hs:=hs.ob hO11 (fun b hm=> by have:=hs11 b hm;simp;omega)
    clear hs11 hO11 hF5
    have hq:¬ 1+(n5:Int)+(m5:Int) < 0:=by omega
    obtain⟨i50,i51,i52⟩:=bx3 hx5
    go_wp2_with fail
    refine(heldRat_any _ hA11 hB11 hn5 hm5 (by omega) (by omega)).mono ?_
    rintro e w12 ⟨rfl,hb12⟩
    clear i50 i51 i52
    replace hx0:=hx0.bl hb12
    replace hx5:=hx5.bl hb12
    replace hA11:=hA11.bl hb12
    replace hB11:=hB11.bl hb12
    replace hbb:=hbb.next hb12
    replace hs:=hs.next hb12
    obtain⟨j0,j1⟩:=bx2 hx0
    go_wp2_with fail
    refine(toMesh_any _ (x:=x) (RdPS.bl ha hbb) (RdTS.bl hk hbb) hsz).mono ?_
    rintro e w13 ⟨P13,Q13,rfl,hO13,hb13⟩
    have z13:=hb13.size
    clear j0 j1
    replace hx0:=hx0.bl hb13
    replace hx5:=hx5.bl hb13
    replace hA11:=hA11.bl hb13
    replace hB11:=hB11.bl hb13
    replace hbb:=hbb.next hb13
    replace hs:=hs.next hb13
    obtain⟨p13,q13,rfl,rfl⟩:=(OwMX.of hO13).some
    go_wp2_with fail
    refine(hW.impl _ hO13.rdP hO13.rdT).mono ?_
    rintro e w14 ⟨s14,A14,n14,c14,B14,m14,d14,rfl,hR14,hb14⟩
    have z14:=hb14.size
    replace hR14:=hR14.rd
    clear hO13
    replace hx5:=hx5.bl hb14
    replace hA11:=hA11.bl hb14
    replace hB11:=hB11.bl hb14
    replace hbb:=hbb.next hb14
    replace hs:=hs.next hb14
    have hx3:Blk _ w3.heap.size 31 #[.bool s3,.slice A3 n3 c3,.slice B3 m3 d3]:=((Blk.new w3 _ _).bl hs).alloc (.cells #[.bool s14,.slice A14 n14 c14,.slice B14 m14 d14] 31)
    obtain⟨i30,i31,i32⟩:=bx3 hx3
    go_wp2_with fail
    refine(eqRat_any _ (hR14.alloc _) (((hR3.alloc _).bl hs).alloc _)).mono ?_
    rintro e w15 ⟨rfl,hb15⟩
    replace hb15:=((Bl.refl w14).alloc _).next hb15
    clear hx3 i30 i31 i32
    replace hx5:=hx5.bl hb15
    replace hA11:=hA11.bl hb15
    replace hB11:=hB11.bl hb15
    replace hbb:=hbb.next hb15
    replace hs:=hs.next hb15
    obtain⟨i50,i51,i52⟩:=bx3 hx5
    go_wp2_with fail
    refine(heldRat_any _ hA11 hB11 hn5 hm5 (by omega) (by omega)).mono ?_
    rintro e w16 ⟨rfl,hb16⟩
    replace hbb:=hbb.next hb16
    clear i50 i51 i52
    go_wp2_with fail
    go_ret
    exact⟨rfl,hbb⟩
  · have e1:=lft_no s1
    go_enter Tryz.func3,Tryz.ntmps3
    go_wp2_with fail
    refine(szMesh_any _ (RdPS.bl ha slc) (RdTS.bl hk slc) (by omega) (by omega)).mono ?_
    rw[e1]
    rintro e w1 ⟨rfl,hb1⟩
    have hbb:Bl w w1:=((Bl.refl w).alloc _).next hb1
    go_wp2_with fail
    go_ret
    exact⟨rfl,hbb⟩
end

end Go.Proofs.YtjaapemopbbfaaaGreat
