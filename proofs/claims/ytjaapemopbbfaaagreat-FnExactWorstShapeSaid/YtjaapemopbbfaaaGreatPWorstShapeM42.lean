/- Lemmas. -/
import Derived.Test.YtjaapemopbbfaaaGreatRows
import Derived.Test.YtjaapemopbbfaaaGreatPWorstShapeM40
import Derived.Test.YtjaapemopbbfaaaGreatPWorstShapeM31
import Derived.Test.YtjaapemopbbfaaaGreatPWorstShapeM26
import Derived.Test.YtjaapemopbbfaaaGreatPWorstShapeM41
import Derived.Test.YtjaapemopbbfaaaGreatPWorstShapeM24
import Derived.Test.YtjaapemopbbfaaaGreatPWorstShapeM30
import Derived.Test.YtjaapemopbbfaaaGreatPWorstShapeM32
import Derived.Test.YtjaapemopbbfaaaGreatPWorstShapeM35
import Derived.Test.YtjaapemopbbfaaaGreatPWorstShapeM03
import Derived.Test.YtjaapemopbbfaaaGreatPWorstShapeM21
import Derived.Test.YtjaapemopbbfaaaGreatPWorstShapeM28
import Derived.Deep.Cut
import Derived.Deep.DeepCutAuto
namespace Go.Proofs.YtjaapemopbbfaaaGreat
section
open Go.RowKit

theorem sq_num (q:Rat):(q * q).num=q.num * q.num∧(q * q).den=q.den * q.den:=by
  have h:q * q=mkRat (q.num * q.num) (q.den * q.den):=Rat.mul_def' q q
  have hc:(q.num * q.num).natAbs.Coprime (q.den * q.den):=by
    rw[Int.natAbs_mul]
    exact Nat.Coprime.mul_left (Nat.Coprime.mul_right q.reduced q.reduced) (Nat.Coprime.mul_right q.reduced q.reduced)
  have hd:q.den * q.den≠0:=Nat.mul_ne_zero q.den_nz q.den_nz
  rw[h,← Rat.mk_eq_mkRat _ _ hd hc]
  exact⟨rfl,rfl⟩
theorem fit_prod {x y:Rat}(hx:Fit (x * x)) (hy:Fit (y * y)):Fit (x * y):=by
  obtain⟨a1,a2⟩:=hx
  obtain⟨b1,b2⟩:=hy
  rw[(sq_num x).1,Int.natAbs_mul] at a1
  rw[(sq_num x).2] at a2
  rw[(sq_num y).1,Int.natAbs_mul] at b1
  rw[(sq_num y).2] at b2
  unfold Fit
  generalize Bs ^ 24=N at *
  have key:∀ u v:Nat,u * u < N→v * v < N→u * v < N:=by
    intro u v hu hv
    rcases Nat.le_total u v with h | h
    · exact Nat.lt_of_le_of_lt (Nat.mul_le_mul_right v h) hv
    · exact Nat.lt_of_le_of_lt (Nat.mul_le_mul_left u h) hu
  have hm:Bd (max (x.num.natAbs * y.num.natAbs) (x.den * y.den)) (x * y):=by
    rw[Rat.mul_def']
    refine bd_mk (Nat.mul_pos x.den_pos y.den_pos) ?_ (Nat.le_max_right _ _)
    rw[Int.natAbs_mul]
    exact Nat.le_max_left _ _
  have hlt:max (x.num.natAbs * y.num.natAbs) (x.den * y.den) < N:=Nat.max_lt.2 ⟨key _ _ a1 b1,key _ _ a2 b2⟩
  exact⟨Nat.lt_of_le_of_lt hm.1 hlt,Nat.lt_of_le_of_lt hm.2 hlt⟩

theorem side_bad {a b:Rat × Rat}(ha:FtP a) (hb:FtP b) (h:BadE a b):sideR (tp a) (tp b)=zR:=by
  unfold sideR
  rw[subP_g hb ha]
  by_cases hd:Fit (b.1 - a.1)∧Fit (b.2 - a.2)
  · rw[if_pos hd]
    unfold innP
    rw[show (tp (b.1 - a.1,b.2 - a.2)).x=toR (b.1 - a.1) from rfl,show (tp (b.1 - a.1,b.2 - a.2)).y=toR (b.2 - a.2) from rfl,mulR_g hd.1 hd.1,mulR_g hd.2 hd.2]
    by_cases h1:Fit ((b.1 - a.1) * (b.1 - a.1))
    · by_cases h2:Fit ((b.2 - a.2) * (b.2 - a.2))
      · rcases h with h | h | h
        · exact absurd hd.1 h
        · exact absurd hd.2 h
        · exact absurd (fit_prod h1 h2) h
      · rw[if_neg h2,addR_zr]
    · rw[if_neg h1,addR_zl]
  · rw[if_neg hd]
    unfold innP
    rw[show zP.x=zR from rfl,mulR_zl,addR_zl]
theorem maxR_zl (r:RatD):maxR zR r=zR:=by unfold maxR;rw[if_neg (fun h=> not_ok_zR h.1)]
theorem maxR_zr (r:RatD):maxR r zR=zR:=by unfold maxR;rw[if_neg (fun h=> not_ok_zR h.2)]
theorem minR_zl (r:RatD):minR zR r=zR:=by unfold minR;rw[if_neg (fun h=> not_ok_zR h.1)]
theorem minR_zr (r:RatD):minR r zR=zR:=by unfold minR;rw[if_neg (fun h=> not_ok_zR h.2)]
theorem divR_zr (r:RatD):divR r zR=zR:=by unfold divR;rw[if_neg (fun h=> not_ok_zR h.2.1)]
theorem shape_bad {a b c:Rat × Rat}(ha:FtP a) (hb:FtP b) (hc:FtP c) (h:BadE a b∨BadE b c∨BadE c a):shapeL [tp a,tp b,tp c]=zR:=by
  unfold shapeL
  split
  · show shapeR (tp a) (tp b) (tp c)=zR
    unfold shapeR longF
    rcases h with h | h | h
    · rw[side_bad ha hb h,maxR_zl,maxR_zl,maxR_zl,divR_zr]
    · rw[side_bad hb hc h,maxR_zr,maxR_zl,divR_zr]
    · rw[side_bad hc ha h,maxR_zr,divR_zr]
  · rfl
/-- The least of the first k shapes and the first one. -/
noncomputable def wsG (m:MeQ):Nat→RatD
  | 0=> shapeL [tp (kA m 0),tp (kB m 0),tp (kC m 0)]
  | k+1=> minR (wsG m k) (shapeL [tp (kA m k),tp (kB m k),tp (kC m k)])
theorem wsG_bad {m:MeQ}(h:MeC m) {j:Nat}(hj:j < m.tris.length) (hb:BadE (kA m j) (kB m j)∨BadE (kB m j) (kC m j)∨BadE (kC m j) (kA m j)):∀ {k:Nat},j < k→wsG m k=zR
  | k+1,hk=> by
    unfold wsG
    rcases(show j < k∨j=k by omega) with h1 | rfl
    · rw[wsG_bad h hj hb h1,minR_zl]
    · obtain⟨h1,h2,h3⟩:=h.at hj
      rw[shape_bad h1 h2 h3 hb,minR_zr]
theorem MeI.zero {m:MeQ}(h:MeI m) (hn:¬ MeS m):wsG m m.tris.length=zR:=by
  obtain⟨k,hk,hb⟩:=h.toS hn
  exact wsG_bad h.toMeC hk hb hk
end

section
open Go.RowKit
theorem OwR.setT {T TP:TypeId}{b0 g k:Nat}{w:World}{s:Bool}{A:Option Addr}{n c:Nat}{B:Option Addr}{m d:Nat}{r:RatD}(h:OwR T b0 w s A n c B m d r) (hk:Wk k TP g w) (hne:T≠TP) (i0:Nat) (u:Value):OwR T b0 (w.setCell ⟨g,i0,none⟩ u) s A n c B m d r:=by
  obtain⟨bs,h1,hf⟩:=h
  exact⟨bs,h1.keep (by simp) (fun b hb=> Below.heap_setCell w _ u b (h1.neT hk hne b hb)),hf.mono (Nat.le_refl _) (by simp)⟩
theorem OwR.put3 {T TP:TypeId}{b0 g k:Nat}{w:World}{s:Bool}{A:Option Addr}{n c:Nat}{B:Option Addr}{m d:Nat}{r:RatD}(h:OwR T b0 w s A n c B m d r) (hk:Wk k TP g w) (hne:T≠TP) (u0 u1 u2:Value) :
    OwR T b0 (((w.setCell ⟨g,0,none⟩ u0).setCell ⟨g,1,none⟩ u1).setCell ⟨g,2,none⟩ u2) s A n c B m d r :=
  ((h.setT hk hne 0 u0).setT (hk.set 0 u0) hne 1 u1).setT ((hk.set 0 u0).set 1 u1) hne 2 u2
theorem ne_ir:(3:TypeId)≠31:=by decide
theorem Wk.ob {k g:Nat}{T:TypeId}{w W:World}{bs:List Nat}(h:Wk k T g w) (ho:Ob bs w W) (hg:g ∉ bs):Wk k T g W:=by
  obtain⟨cs,h1,h2⟩:=h
  exact⟨cs,h1.ob ho hg,h2⟩

/-- A mesh that the program calls valid. -/
def MeshI (P:List PtD) (ts:List TriD):Prop:=∃ mq:MeQ,P=mq.pts.map tp∧ts=mq.tris∧MeI mq
theorem MeI.ptsOk {m:MeQ}(h:MeI m):PtsOk (m.pts.map tp):=by
  intro k hk
  rw[List.length_map] at hk
  rw[pix_map hk]
  refine⟨(h.fit k hk).ok,fun j hj=> ?_⟩
  rw[pix_map (by omega)]
  refine eqP_no fun e=> h.diff k hk j hj (tp_inj e)
theorem IsMesh_y (w:World) {gp n cp gt m ct:Nat}{mq:MeQ}(hp:RdPS w (some ⟨gp,0,none⟩) n cp (mq.pts.map tp)) (ht:RdTS w (some ⟨gt,0,none⟩) m ct mq.tris) (hok:MeI mq) :
    Calls Tryz.prog 21 #[.agg #[.slice (some ⟨gp,0,none⟩) n cp,.slice (some ⟨gt,0,none⟩) m ct]] w fun e w'=> e=.returned (.bool true)∧Bl w w':=by
  have hn:mq.pts.length=n:=by rw[← hp.len,List.length_map]
  have hm:mq.tris.length=m:=ht.len
  refine(IsMesh_m w hp ht hok.ptsOk (by have:=hok.n3;omega) (by have:=hok.n40;omega) (by have:=hok.t1;omega) (by have:=hok.t48;omega)).mono ?_
  rintro e w1 ⟨b,rfl,hb,h⟩
  rw[hb.2 hok]
  exact⟨rfl,h⟩
theorem IsMesh_n (w:World) {gp n cp gt m ct:Nat}{P:List PtD}{ts:List TriD}(hp:RdPS w (some ⟨gp,0,none⟩) n cp P) (ht:RdTS w (some ⟨gt,0,none⟩) m ct ts) (hno:¬ MeshI P ts) :
    Calls Tryz.prog 21 #[.agg #[.slice (some ⟨gp,0,none⟩) n cp,.slice (some ⟨gt,0,none⟩) m ct]] w fun e w'=> e=.returned (.bool false)∧Bl w w':=by
  by_cases hA:PtsOk P∧3≤n∧n≤40
  · by_cases hB:1≤(m:Int)∧(m:Int)≤48
    · obtain⟨q,rfl⟩:=ptsOk_map hA.1
      refine(IsMesh_m (mq:=⟨q,ts⟩) w hp ht hA.1 hA.2.1 hA.2.2 (by omega) (by omega)).mono ?_
      rintro e w1 ⟨b,rfl,hb,h⟩
      cases b
      · exact⟨rfl,h⟩
      · exact absurd ⟨_,rfl,rfl,hb.1 rfl⟩ hno
    · have hms:=ht.small
      have hB:=Lib.hid hB;rename_i h_;clear h_
      have hA:=Lib.hid hA;rename_i h_;clear h_
      go_enter Tryz.func21,Tryz.ntmps21
      go_wp2_with fail
      refine calls_gen (fun W=> Bl w W∧Blk W w.heap.size 36 #[.slice (some ⟨gp,0,none⟩) n cp,.slice (some ⟨gt,0,none⟩) m ct]) ⟨slc,bts⟩ ?_
      rintro W ⟨hbW,hM⟩
      refine(arePoints_q _ (RdPS.bl hp hbW)).mono ?_
      rintro e w1 ⟨b,rfl,hb,hb1⟩
      have hbt:=hb.2 hA.out
      subst hbt
      clear hb
      have hM:=hM.bl hb1
      have hbW:=hbW.next hb1
      clear hb1
      obtain⟨r0,r1⟩:=bx2 hM
      go_wp2_with fail
      refine(within_no _ hB.out).mono ?_
      rintro e w2 ⟨rfl,q1,rfl⟩
      go_wp2_with fail
      go_ret
      exact⟨rfl,by exact slc⟩
  · have hA:=Lib.hid hA;rename_i h_;clear h_
    go_enter Tryz.func21,Tryz.ntmps21
    go_wp2_with fail
    refine calls_gen (fun W=> Bl w W) slc ?_
    intro W hbW
    refine(arePoints_q _ (RdPS.bl hp hbW)).mono ?_
    rintro e w1 ⟨b,rfl,hb,hb1⟩
    have hbf:b=false:=Bool.eq_false_iff.2 fun h=> hA.out (hb.1 h)
    subst hbf
    clear hb
    go_wp2_with fail
    go_ret
    exact⟨rfl,hbW.next hb1⟩
theorem cornL_k {mq:MeQ}(h:TrsIx mq.pts.length mq.tris) {k:Nat}(hk:k < mq.tris.length):cornL ⟨mq.pts.map tp,mq.tris⟩ (k:Int)=[tp (kA mq k),tp (kB mq k),tp (kC mq k)]:=by
  obtain⟨⟨a0,a1⟩,⟨b0,b1⟩,c0,c1⟩:=h k hk
  unfold cornL
  rw[if_pos]
  · show [pix (mq.pts.map tp) _,pix (mq.pts.map tp) _,pix (mq.pts.map tp) _]=_
    rw[Int.toNat_natCast]
    show [pix (mq.pts.map tp) (pix mq.tris k).a.toNat,pix (mq.pts.map tp) (pix mq.tris k).b.toNat,pix (mq.pts.map tp) (pix mq.tris k).c.toNat]=_
    rw[pix_map (by omega),pix_map (by omega),pix_map (by omega)]
    rfl
  · refine⟨⟨by omega,by show (k:Int)≤(mq.tris.length:Int) - 1;omega⟩,fun j hj=> ?_⟩
    rw[Int.toNat_natCast]
    show 0≤triIx (pix mq.tris k) j∧triIx (pix mq.tris k) j≤((mq.pts.map tp).length:Int) - 1
    rw[List.length_map]
    rcases(show j=0∨j=1∨j=2 by omega) with rfl | rfl | rfl
    · show 0≤(pix mq.tris k).a∧(pix mq.tris k).a≤_;omega
    · show 0≤(pix mq.tris k).b∧(pix mq.tris k).b≤_;omega
    · show 0≤(pix mq.tris k).c∧(pix mq.tris k).c≤_;omega
theorem OwPZ.lit3 {TI TP:TypeId}{lo hi:Nat}{w:World}{A:Option Addr}{n c:Nat}{p q r:PtD}(h:OwPZ TI TP lo hi w A n c [p,q,r]):∃ g,A=some ⟨g,0,none⟩∧n=3:=by
  obtain⟨h1,h2,h3,h4⟩:=h
  rcases h4 with h4 |⟨g,cs,fs,rfl,_⟩
  · subst h4;cases h1
  · exact⟨g,rfl,h1.symm⟩
def RatOS (w:World) (r:RatD) (e:Ending) (w':World):Prop:=∃ s1 A1 n1 c1 B1 m1 d1,e=.returned (.agg #[.bool s1,.slice A1 n1 c1,.slice B1 m1 d1])∧OwR 3 w.heap.size w' s1 A1 n1 c1 B1 m1 d1 r∧Bl w w'
set_option maxRecDepth 100000 in
set_option maxHeartbeats 32000000 in
theorem WorstShape_yes (w:World) {gp n cp gt m ct:Nat}{mq:MeQ}(hp:RdPS w (some ⟨gp,0,none⟩) n cp (mq.pts.map tp)) (ht:RdTS w (some ⟨gt,0,none⟩) m ct mq.tris) (hok:MeI mq) (hsz:szL szP (mq.pts.map tp)≤1048576) :
    Calls Tryz.prog 7 #[.agg #[.slice (some ⟨gp,0,none⟩) n cp,.slice (some ⟨gt,0,none⟩) m ct]] w (RatOS w (wsG mq m)):=by
  have hm48:m≤48:=by have:=hok.t48;rw[ht.len] at this;exact this
  have hm0:1≤m:=by have:=hok.t1;rw[ht.len] at this;exact this
  have hn:=Lib.hid (show mq.pts.length=n by rw[← hp.len,List.length_map])
  have hm:=Lib.hid ht.len
  have hok:=Lib.hid hok;rename_i h_;clear h_
  have hcp:=ht.cap
  go_enter Tryz.func7,Tryz.ntmps7
  go_wp2_with fail
  refine calls_gen (fun W=> Bl w W∧Blk W w.heap.size 36 #[.slice (some ⟨gp,0,none⟩) n cp,.slice (some ⟨gt,0,none⟩) m ct]∧Wk 3 31 (w.heap.size+1) W) ⟨slc,bts,bts⟩ ?_
  rintro W ⟨hbW,h1,hr⟩
  refine(IsMesh_y _ (RdPS.bl hp hbW) (RdTS.bl ht hbW) hok.out).mono ?_
  rintro e w1 ⟨rfl,hb1⟩
  have h1:=h1.bl hb1
  have hr:=hr.bl hb1
  have hbW:=hbW.next hb1
  clear hb1
  obtain⟨r0,r1⟩:=bx2 h1
  go_wp2_with fail
  have hbW0:=Nat.le_trans (Nat.le_refl _) hbW.size
  refine(Corners_any (x:=⟨mq.pts.map tp,mq.tris⟩) _ 0 (RdPS.bl hp hbW) (RdTS.bl ht hbW) hsz).mono ?_
  rw[show cornL ⟨mq.pts.map tp,mq.tris⟩ 0=[tp (kA mq 0),tp (kB mq 0),tp (kC mq 0)] from cornL_k (k:=0) hok.out.ixs (by rw[hm.out];omega)]
  rintro e w3 ⟨A3,n3,c3,rfl,hO3,hb3⟩
  obtain⟨g3',rfl,rfl⟩:=hO3.lit3
  clear r0 r1
  go_wp2_with fail
  refine(ShapeOf_any _ hO3.rd).mono ?_
  rintro e w4 ⟨s4,A4,n4,c4,B4,m4,d4,rfl,hR4,hb4⟩
  have h1:=h1.bl (hb3.next hb4)
  have hr:=hr.bl (hb3.next hb4)
  have hbW:=hbW.next (hb3.next hb4)
  have hrl:=hr.lt
  have hw3:=Lib.hid (show w.heap.size≤w3.heap.size by have:=hbW.size;have h3:=hb3.size;have h4:=hbW0;omega)
  clear hb3 hb4 hO3
  go_upto_region 4 with (fail)
  refine wp_gen (fun W=> Bl w4 W∧∃ g3,Blk W g3 31 #[.bool s4,.slice A4 n4 c4,.slice B4 m4 d4]∧g3=w4.heap.size) ⟨by exact slc,_,by exact bts,rfl⟩ ?_
  rintro W4 ⟨hb4,g3,h3,hg3⟩
  rw[← hg3]
  have hgl:w.heap.size+1 < g3:=by omega
  have h1:=h1.bl hb4
  have hr:=hr.bl hb4
  have hbW:=hbW.next hb4
  have hF3:OwR 3 w.heap.size W4 s4 A4 n4 c4 B4 m4 d4 (wsG mq 0):=(hR4.bl hb4).mono hw3.out
  clear hg3 hb4 hR4 hrl
  obtain⟨r0,r1⟩:=bx2 h1
  go_wp2_with fail
  clear r0 r1
  go_loopw [15] (fun x wr=> ∃ (k:Nat) (s7:Bool) (A7:Option Addr) (n7 c7:Nat) (B7:Option Addr) (m7 d7:Nat),k≤m∧x=.int .i64 (k:Int)∧Blk wr g3 31 #[.bool s7,.slice A7 n7 c7,.slice B7 m7 d7]∧OwR 3 w.heap.size wr s7 A7 n7 c7 B7 m7 d7 (wsG mq k)∧Ob [g3] W4 wr) (fun x _=> m - (intOf x).toNat)
  case atStart=> exact⟨0,_,_,_,_,_,_,_,by omega,rfl,h3,hF3,Ob.refl _ _⟩
  case round =>
    clear h3 hF3
    obtain⟨k,s7,A7,n7,c7,B7,m7,d7,hk,rfl,h3,hF3,hO⟩:=hrel
    obtain⟨wi,rfl⟩:∃ wi:World,wi=wr:=⟨_,rfl⟩
    have hbj:Bl w wi:=hbW.ob hO (fun b hb=> by simp at hb;omega)
    have h1:=h1.ob hO (by simp;omega)
    by_cases hkm:k < m
    · have hki:(k:Int) < (m:Int):=by omega
      have hkl:k < mq.tris.length:=by rw[hm.out];exact hkm
      have hcK:=Lib.hid (cornL_k (k:=k) hok.out.ixs hkl)
      clear hkl
      go_upto_region 7 with (fail)
      have hHeld:(fun w' =>(w'.cell? ⟨g3,0,none⟩=some (.bool s7)∧w'.cell? ⟨g3,1,none⟩=some (.slice A7 n7 c7)∧w'.cell? ⟨g3,2,none⟩=some (.slice B7 m7 d7))∧(w'.cell? ⟨w.heap.size,0,none⟩=some (.slice (some ⟨gp,0,none⟩) n cp)∧w'.cell? ⟨w.heap.size,1,none⟩=some (.slice (some ⟨gt,0,none⟩) m ct))) (wi.drew):=⟨bx3 (T:=31) (h3.bl slc),bx2 (T:=36) (h1.bl slc)⟩
      refine wp_region_T 6 7 (fun w' =>(w'.cell? ⟨g3,0,none⟩=some (.bool s7)∧w'.cell? ⟨g3,1,none⟩=some (.slice A7 n7 c7)∧w'.cell? ⟨g3,2,none⟩=some (.slice B7 m7 d7))∧(w'.cell? ⟨w.heap.size,0,none⟩=some (.slice (some ⟨gp,0,none⟩) n cp)∧w'.cell? ⟨w.heap.size,1,none⟩=some (.slice (some ⟨gt,0,none⟩) m ct))) rfl (by kernel_rfl) hHeld ?_
      refine wpAnyT_take (i:=0) (oi:=_) (v:=?_) (fuel:=6) rfl (by kernel_rfl) (by kernel_rfl) (by kernel_rfl) (by kernel_rfl) (fun _ _ _ h=> h) (by rfl) ?_ hHeld ?_
      rotate_left 1
      · (intro w' hSw;(try dsimp only at hSw);go_simp <;> with_reducible rfl)
      refine wpAnyT_take (i:=1) (oi:=_) (v:=?_) (fuel:=5) rfl (by kernel_rfl) (by kernel_rfl) (by kernel_rfl) (by kernel_rfl) (fun _ _ _ h=> h) (by rfl) ?_ hHeld ?_
      rotate_left 1
      · (intro w' hSw;(try dsimp only at hSw);go_simp <;> with_reducible rfl)
      refine wpAnyT_take (i:=2) (oi:=_) (v:=?_) (fuel:=4) rfl (by kernel_rfl) (by kernel_rfl) (by kernel_rfl) (by kernel_rfl) (fun _ _ _ h=> h) (by rfl) ?_ hHeld ?_
      rotate_left 1
      · (intro w' hSw;(try dsimp only at hSw);go_simp <;> with_reducible rfl)
      clear hHeld
      simp only[Act.put,List.setIfInBounds_toArray]
      refine wpAnyT_step (i:=3) (o:=_) (fuel:=3) rfl (by kernel_rfl) (fun K hK=> ?_)
      go_simp
      refine(Corners_any (x:=⟨mq.pts.map tp,mq.tris⟩) _ (k:Int) (RdPS.bl hp (hbj.next (show Bl wi _ from slc))) (RdTS.bl ht (hbj.next (show Bl wi _ from slc))) hsz).mono ?_
      rw[hcK.out]
      rintro e w5 ⟨A5,n5,c5,rfl,hO5,hb5⟩
      obtain⟨g5,rfl,rfl⟩:=hO5.lit3
      have hb5:Bl wi w5:=(Bl.drew (Bl.refl wi)).next hb5
      refine hK.out _ _ (fun _ =>⟨bx3 (T:=31) (h3.bl slc),bx2 (T:=36) (h1.bl slc)⟩) ?_
      clear hK K
      try simp only[Act.put,List.setIfInBounds_toArray,List.set_cons_zero,List.set_cons_succ]
      refine wpAnyT_step (i:=4) (o:=_) (fuel:=2) rfl (by kernel_rfl) (fun K hK=> ?_)
      go_simp
      refine(ShapeOf_any _ hO5.rd).mono ?_
      rintro e w6 ⟨s6,A6,n6,c6,B6,m6,d6,rfl,hR6,hb6⟩
      have hb6:Bl wi w6:=hb5.next hb6
      refine hK.out _ _ (fun _ =>⟨bx3 (T:=31) (h3.bl slc),bx2 (T:=36) (h1.bl slc)⟩) ?_
      clear hK K
      try simp only[Act.put,List.setIfInBounds_toArray,List.set_cons_zero,List.set_cons_succ]
      refine wpAnyT_step (i:=5) (o:=_) (fuel:=1) rfl (by kernel_rfl) (fun K hK=> ?_)
      go_simp
      have hw8:=Lib.hid (fun (X:World) (h:Bl wi X) =>(show w.heap.size≤X.heap.size by have h1:=hbj.size;have h2:=h.size;omega))
      refine(RatMin_any _ (hF3.rd.bl slc) hR6.rd).mono ?_
      rintro e w7 ⟨s8,A8,n8,c8,B8,m8,d8,rfl,hRn,hb7⟩
      have hb7:Bl wi w7:=hb6.next hb7
      refine hK.out _ _ (fun _ =>⟨bx3 (T:=31) (h3.bl slc),bx2 (T:=36) (h1.bl slc)⟩) ?_
      clear hK K
      try simp only[Act.put,List.setIfInBounds_toArray,List.set_cons_zero,List.set_cons_succ]
      have h3:=h3.bl hb7
      obtain⟨z0',z1',z2'⟩:=bx3 h3
      have zf0:=h3.frozen 0
      have zf1:=h3.frozen 1
      have zf2:=h3.frozen 2
      refine wpAnyT_step (i:=6) (o:=_) (fuel:=0) rfl (by kernel_rfl) (fun K hK=> ?_)
      go_simp
      refine hK.out _ _ (fun h=> absurd rfl h) ?_
      clear hK K
      try simp only[Act.put,List.setIfInBounds_toArray]
      refine wpAnyT_done (by kernel_rfl) ?_
      have hk:Wk 3 31 g3 w7:=Wk.of h3 rfl
      have hF3:=OwR.put3 (hRn.mono (hw8.out w6 hb6)) hk ne_ir (.bool s8) (.slice A8 n8 c8) (.slice B8 m8 d8)
      have h3:Blk (((w7.setCell ⟨g3,0,none⟩ (.bool s8)).setCell ⟨g3,1,none⟩ (.slice A8 n8 c8)).setCell ⟨g3,2,none⟩ (.slice B8 m8 d8)) g3 31 #[.bool s8,.slice A8 n8 c8,.slice B8 m8 d8]:=by simpa using ((h3.set_ 0 (.bool s8)).set_ 1 (.slice A8 n8 c8)).set_ 2 (.slice B8 m8 d8)
      have hOz:Ob [g3] W4 (((w7.setCell ⟨g3,0,none⟩ (.bool s8)).setCell ⟨g3,1,none⟩ (.slice A8 n8 c8)).setCell ⟨g3,2,none⟩ (.slice B8 m8 d8)):=(((hO.trans (Ob.of_bl hb7 _)).set (by simp) 0 _).set (by simp) 1 _).set (by simp) 2 _
      generalize (((w7.setCell ⟨g3,0,none⟩ (.bool s8)).setCell ⟨g3,1,none⟩ (.slice A8 n8 c8)).setCell ⟨g3,2,none⟩ (.slice B8 m8 d8))=wz at hF3 h3 hOz ⊢
      clear hk hRn hb7
      go_wp2_with fail
      go_roundw
      case rel=> exact⟨k+1,_,_,_,_,_,_,_,by omega,by go_num,h3,hF3,hOz⟩
      case measure=> simp[intOf];omega
    · obtain rfl:k=m:=by omega
      have hkm2:¬ (k:Int) < (k:Int):=by omega
      have hr:=hr.ob hO (by simp;omega)
      have hF:=OwR.put3 hF3 hr ne_ir (.bool s7) (.slice A7 n7 c7) (.slice B7 m7 d7)
      obtain⟨i0,i1,i2⟩:=bx3 h3
      obtain⟨v0,x0⟩:=hr.val_ (i:=0) (by omega)
      obtain⟨v1,x1⟩:=hr.val_ (i:=1) (by omega)
      obtain⟨v2,x2⟩:=hr.val_ (i:=2) (by omega)
      have hg:=hr.lt
      obtain⟨cs4,hB4,hc4⟩:=hr
      have hf0:=hB4.frozen 0
      have hf1:=hB4.frozen 1
      have hf2:=hB4.frozen 2
      go_wp2_with fail
      exact bodyPost_ret (v:=.agg #[.bool s7,.slice A7 n7 c7,.slice B7 m7 d7]) (by simp[results,Tryz.results7,go_sem,x0,x1,x2]) rfl ⟨_,_,_,_,_,_,_,rfl,by exact hF,slc⟩

theorem WorstShape_no (w:World) {gp n cp gt m ct:Nat}{P:List PtD}{ts:List TriD}(hp:RdPS w (some ⟨gp,0,none⟩) n cp P) (ht:RdTS w (some ⟨gt,0,none⟩) m ct ts) (hno:¬ MeshI P ts) :
    Calls Tryz.prog 7 #[.agg #[.slice (some ⟨gp,0,none⟩) n cp,.slice (some ⟨gt,0,none⟩) m ct]] w (RatOS w zR):=by
  have hno:=Lib.hid hno;rename_i h_;clear h_
  go_enter Tryz.func7,Tryz.ntmps7
  go_wp2_with fail
  refine calls_gen (fun W=> Bl w W∧Wk 3 31 (w.heap.size+1) W) ⟨slc,bts⟩ ?_
  rintro W ⟨hbW,hr⟩
  refine(IsMesh_n _ (RdPS.bl hp hbW) (RdTS.bl ht hbW) hno.out).mono ?_
  rintro e w1 ⟨rfl,hb1⟩
  have hr:=hr.bl hb1
  have hbW:=hbW.next hb1
  clear hb1
  obtain⟨v0,x0⟩:=hr.val_ (i:=0) (by omega)
  obtain⟨v1,x1⟩:=hr.val_ (i:=1) (by omega)
  obtain⟨v2,x2⟩:=hr.val_ (i:=2) (by omega)
  have hg:=hr.lt
  obtain⟨cs4,hB4,hc4⟩:=hr
  have hf0:=hB4.frozen 0
  have hf1:=hB4.frozen 1
  have hf2:=hB4.frozen 2
  go_wp2_with fail
  exact bodyPost_ret (v:=.agg #[.bool false,.slice none 0 0,.slice none 0 0]) (by simp[results,Tryz.results7,go_sem,x0,x1,x2]) rfl ⟨_,_,_,_,_,_,_,rfl,OwR.zero _ _ _,slc⟩
end

section
open Go.RowKit
theorem rd_three (w:World) (a b c:Int):RdI (w.alloc (.cells #[.int .i64 a,.int .i64 b,.int .i64 c] 3)) (some ⟨w.heap.size,0,none⟩) 3 3 [a,b,c] :=
  Ow.rd (T:=3) (l:=[a,b,c]) (Blk.new w 3 #[.int .i64 a,.int .i64 b,.int .i64 c]) (by simp) (by simp)

/-- The corners of the first k triangles. -/
def usL (ts:List TriD) (k:Nat):List Int:=(List.range k).flatMap fun i=> [(pix ts i).a,(pix ts i).b,(pix ts i).c]
theorem usL_succ (ts:List TriD) (k:Nat):usL ts (k+1)=usL ts k ++ [(pix ts k).a,(pix ts k).b,(pix ts k).c]:=by
  unfold usL
  rw[List.range_succ,List.flatMap_append]
  simp
theorem usL_len (ts:List TriD):∀ k,(usL ts k).length=3 * k
  | 0=> rfl
  | k+1=> by
    rw[usL_succ,List.length_append,usL_len ts k]
    simp
    omega
theorem usL_mem {ts:List TriD}{i n:Nat}{x:Int}(hi:i < n) (h:(pix ts i).a=x∨(pix ts i).b=x∨(pix ts i).c=x):x ∈ usL ts n:=by
  unfold usL
  rw[List.mem_flatMap]
  refine⟨i,List.mem_range.2 hi,?_⟩
  rcases h with h | h | h <;> simp[h]

theorem usL_of {ts:List TriD}{n:Nat}{x:Int}(h:x ∈ usL ts n):∃ i,i < n∧((pix ts i).a=x∨(pix ts i).b=x∨(pix ts i).c=x):=by
  unfold usL at h
  rw[List.mem_flatMap] at h
  obtain⟨i,hi,h⟩:=h
  refine⟨i,List.mem_range.1 hi,?_⟩
  simp at h
  rcases h with h | h | h <;> simp[h]
set_option maxRecDepth 100000 in
set_option maxHeartbeats 4000000 in
theorem l07Has_q (w:World) {A:Option Addr}{n c:Nat}{l:List Int}(h:RdI w A n c l) (x:Int) :
    Calls Tryz.prog 78 #[.slice A n c,.int .i64 x] w fun e w'=> YRes (x ∈ l) w e w':=by
  have hn:=h.small
  have hl:=Lib.hid h.len
  go_enter Tryz.func78,Tryz.ntmps78
  go_wp2_with fail
  go_loopw [9] (fun i wr=> ∃ k:Nat,k≤n∧i=.int .i64 (k:Int)∧Hid (∀ j,j < k→ix l j≠x)∧Bl w wr) (fun i _=> n - (intOf i).toNat)
  case atStart=> exact⟨0,Nat.zero_le _,rfl,Lib.hid (fun j hj=> by omega),Bl.refl _⟩
  case round =>
    obtain⟨k,hk,rfl,hin,hbw⟩:=hrel
    by_cases hkn:k < n
    · have hki:(k:Int) < (n:Int):=by omega
      obtain⟨ad,rfl,hlt,hc⟩:=(RdI.bl h hbw).at_ hkn
      by_cases ho:ix l k=x
      · have hb:(ix l k == x)=true:=by simpa using ho
        have hmem:=Lib.hid (show x ∈ l by rw[← ho];unfold ix;rw[List.getD_eq_getElem?_getD,List.getElem?_eq_getElem (by rw[hl.out];exact hkn)];exact List.getElem_mem _)
        clear ho hin
        go_wp2_with fail
        go_ret
        exact yres_true hmem.out slc
      · have hb:(ix l k == x)=false:=by simpa using ho
        have hin2:=Lib.hid (show ∀ j,j < k+1→ix l j≠x from fun j hj=> by
          rcases Nat.lt_succ_iff_lt_or_eq.1 hj with hj | rfl
          · exact hin.out j hj
          · exact ho)
        clear ho hin
        go_wp2_with fail
        go_roundw
        case rel=> exact⟨k+1,by omega,by go_num,hin2,hbw⟩
        case measure=> simp[intOf];omega
    · have hnm:=Lib.hid (show ¬ x ∈ l from fun hx=> by
        obtain⟨i,hi,e⟩:=List.getElem_of_mem hx
        exact absurd (show ix l i=x by simp[ix,hi,e]) (hin.out i (by rw[hl.out] at hi;omega)))
      obtain rfl:k=n:=by omega
      have hkm2:¬ (k:Int) < (k:Int):=by omega
      clear hin
      go_wp2_with fail
      go_ret
      exact yres_false hnm.out hbw

/-- What the reference asks of the points. -/
def PtsS (P:List PtD) (ts:List TriD) (m k:Nat):Prop:=∀ i,i < k→OkP (pix P i)∧(i:Int) ∈ usL ts m∧∀ j,j < i→eqP (pix P i) (pix P j)=false
def DifTo (P:List PtD) (k j:Nat):Prop:=∀ i,i < j→eqP (pix P k) (pix P i)=false
set_option maxRecDepth 100000 in
set_option maxHeartbeats 32000000 in
theorem l07Points_q (w:World) {gp n cp gt m ct:Nat}{P:List PtD}{ts:List TriD}(hp:RdPS w (some ⟨gp,0,none⟩) n cp P) (ht:RdTS w (some ⟨gt,0,none⟩) m ct ts) (hm48:m≤48) :
    Calls Tryz.prog 37 #[.agg #[.slice (some ⟨gp,0,none⟩) n cp,.slice (some ⟨gt,0,none⟩) m ct]] w fun e w'=> YRes (PtsS P ts m n∧3≤n∧n≤40) w e w':=by
  have hns:=hp.small
  have hcp:=hp.cap
  go_enter Tryz.func37,Tryz.ntmps37
  go_upto_region 1 with (fail)
  refine wp_gen (fun W=> Bl w W∧∃ g1,Blk W g1 36 #[.slice (some ⟨gp,0,none⟩) n cp,.slice (some ⟨gt,0,none⟩) m ct]∧g1=w.heap.size) ⟨slc,_,by exact bts,rfl⟩ ?_
  rintro W ⟨hbW,g1,h1,hg1⟩
  rw[← hg1]
  clear hg1
  have hp:=RdPS.bl hp hbW
  have ht:=RdTS.bl ht hbW
  go_upto_region 2 with (fail)
  refine wp_gen (fun W3=> Bl W W3∧∃ v c,OwL 3 W.heap.size W3 v (usL ts 0)∧v=.slice (some ⟨W.heap.size,0,none⟩) 0 c∧c=0) ⟨by exact slc,_,0,OwL.empty W (Nat.le_refl _) (by decide),rfl,rfl⟩ ?_
  rintro W3 ⟨hb0,v0,c0,hX,hv0,rfl⟩
  rw[← hv0]
  clear hv0
  obtain⟨r0,r1⟩:=bx2 (h1.bl hb0)
  go_wp2_with fail
  clear r0 r1
  go_loopw [3,14] (fun s v wr=> ∃ (i:Nat) (o:Value),i≤m∧v=.int .i64 (i:Int)∧o=s∧OwL 3 W.heap.size wr o (usL ts i)∧Bl W wr) (fun _ v _=> m - (intOf v).toNat)
  case atStart=> exact⟨0,v0,by omega,rfl,rfl,hX,hb0⟩
  case round =>
    clear hX hb0
    obtain⟨i,o,hi,rfl,rfl,hX,hbi⟩:=hrel
    obtain⟨wj,rfl⟩:∃ wj:World,wj=wr:=⟨_,rfl⟩
    have hSl:=Lib.hid (usL_len ts i)
    by_cases hin:i < m
    · have hii:(i:Int) < (m:Int):=by omega
      obtain⟨y0,y1,y2,y3,y4⟩:=trs_lit (RdTS.bl ht hbi) hin
      have hS2:=usL_succ ts i
      obtain⟨t,ht_⟩:∃ t,pix ts i=t:=⟨_,rfl⟩
      rw[ht_] at y0 y1 y2 y3 y4 hS2
      have hS2:=Lib.hid hS2
      clear ht_
      go_upto_region 5 with (fail)
      refine wp_gen (fun X=> Bl wj X∧Blk X wj.heap.size 69 #[.int .i64 t.a,.int .i64 t.b,.int .i64 t.c,.int .i64 t.region,.int .i64 t.level]) ⟨slc,by exact bts⟩ ?_
      rintro X ⟨hbq,h7⟩
      have hX:=hX.bl hbq
      have hbX:=hbi.next hbq
      clear y0 y1 y2 y3 y4
      obtain⟨z0,z1,z2,z3,z4⟩:=bx5 h7
      go_wp2_with ((refine wpList_append_x (w0:=W) info_int Tryz.underlying27 rfl (.tmp 18) (.tmp 25) rfl _ (usL ts i) (by rfl) (hX.alloc _) (hbX.alloc _) (some ⟨X.heap.size,0,none⟩) 3 3 (by rfl) [t.a,t.b,t.c] (rd_three X t.a t.b t.c) (by rw[hSl.out];omega) (by omega) ?_);intro vx7 w7 hX7 hb7)
      rw[← hS2.out] at hX7
      go_roundw
      case rel=> exact⟨i+1,vx7,by omega,by go_num,rfl,hX7,hb7⟩
      case measure=> simp[intOf];omega
    · obtain rfl:m=i:=by omega
      have hkm3:¬ (m:Int) < (m:Int):=by omega
      obtain⟨B,c,rfl,hR⟩:=hX.own (by rw[hSl.out];omega)
      have hRd:=hR.rd
      have h1:=h1.bl hbi
      have hp:=RdPS.bl hp hbi
      have hbw:=hbW.next hbi
      clear hX hR
      obtain⟨r0,r1⟩:=bx2 h1
      go_wp2_with fail
      clear r0 r1
      go_loopw [31] (fun si wr=> ∃ k:Nat,k≤n∧si=.int .i64 (k:Int)∧Hid (PtsS P ts m k)∧Bl wj wr) (fun si _=> n - (intOf si).toNat)
      case atStart=> exact⟨0,by omega,rfl,Lib.hid (fun i hi=> by omega),Bl.refl _⟩
      case round =>
        obtain⟨k,hk,rfl,hpre,hbk⟩:=hrel
        obtain⟨wk,rfl⟩:∃ wk:World,wk=wr:=⟨_,rfl⟩
        by_cases hkn:k < n
        · have hki:(k:Int) < (n:Int):=by omega
          obtain⟨s7,A7,n7,c7,B7,m7,d7,t7,C7,i7,e7,D7,j7,f7,⟨y0,y1,y2,y3,y4,y5⟩,hX,hY⟩:=pts_lit (RdPS.bl hp hbk) hkn
          have hat:=Lib.hid (fun (h:PtsS P ts m n∧3≤n∧n≤40)=> h.1 k hkn)
          have hst:=Lib.hid (fun (h1:OkP (pix P k)) (h2:(k:Int) ∈ usL ts m) (h3:DifTo P k k) =>(fun i hi=> by
            rcases(show i < k∨i=k by omega) with h4 | rfl
            · exact hpre.out i h4
            · exact⟨h1,h2,h3⟩:PtsS P ts m (k+1)))
          clear hpre
          go_upto_region 10 with (fail)
          refine wp_gen (fun X=> Bl wk X∧∃ g7,Blk X g7 76 #[.bool s7,.slice A7 n7 c7,.slice B7 m7 d7,.bool t7,.slice C7 i7 e7,.slice D7 j7 f7]∧g7=wk.heap.size) ⟨slc,_,by exact bts,rfl⟩ ?_
          rintro X ⟨hbX,g7,h7,hg7⟩
          rw[← hg7]
          have hbkX:=hbk.next hbX
          clear y0 y1 y2 y3 y4 y5 hg7
          obtain⟨x0,x1,x2,x3,x4,x5⟩:=bx6 h7
          go_wp2_with fail
          by_cases hok:OkP (pix P k)
          · have hok:=Lib.hid hok;rename_i h_;clear h_
            refine(sIsValidPoint_yes _ (hX.bl hbX) (hY.bl hbX) hok.out).mono ?_
            rintro e w6 ⟨rfl,hb6⟩
            go_wp2_with fail
            refine(l07Has_q _ (RdI.bl hRd (hbkX.next hb6)) (k:Int)).mono ?_
            rintro e w7 ⟨bh,rfl,hbh,hb7⟩
            have hbh:=Lib.hid hbh;rename_i h_;clear h_
            by_cases hmem:(k:Int) ∈ usL ts m
            · have hbt:=hbh.out.2 hmem
              subst hbt
              have hst:=Lib.hid (hst.out hok.out hmem)
              have hat:=Lib.hid (fun h =>(hat.out h).2.2)
              clear hbh hmem hok
              have hb67:=hb6.next hb7
              have h7:=h7.bl hb67
              have hbk7:=hbkX.next hb67
              have hbX7:=hbX.next hb67
              clear x0 x1 x2 x3 x4 x5 hb6 hb7 hb67
              obtain⟨r0,r1⟩:=bx2 (h1.bl hbk7)
              have hkc:k≤cp:=by omega
              have hkl:(k:Int)≤(n:Int):=by omega
              have hkc2:(k:Int)≤(cp:Int):=by omega
              go_wp2_with fail
              clear r0 r1
              go_loopw [50] (fun sj wr2=> ∃ j:Nat,j≤k∧sj=.int .i64 (j:Int)∧Hid (DifTo P k j)∧Bl w7 wr2) (fun sj _=> k - (intOf sj).toNat)
              case atStart=> exact⟨0,by omega,rfl,Lib.hid (fun i hi=> by omega),Bl.refl _⟩
              case round =>
                obtain⟨j,hj,rfl,hdf,hbj⟩:=hrel
                obtain⟨wz,rfl⟩:∃ wz:World,wz=wr:=⟨_,rfl⟩
                by_cases hjk:j < k
                · have hji:(j:Int) < (k:Int):=by omega
                  have hjn:j < n:=by omega
                  obtain⟨s8,A8,n8,c8,B8,m8,d8,t8,C8,i8,e8,D8,j8,f8,⟨y0,y1,y2,y3,y4,y5⟩,hX2,hY2⟩:=pts_lit (RdPS.bl hp (hbk7.next hbj)) hjn
                  have hds:=Lib.hid (fun (h:eqP (pix P k) (pix P j)=false) =>(fun i hi=> by
                    rcases(show i < j∨i=j by omega) with h4 | rfl
                    · exact hdf.out i h4
                    · exact h:DifTo P k (j+1)))
                  have hdb:=Lib.hid (fun h =>(hat.out h:∀ i,i < k→eqP (pix P k) (pix P i)=false) j hjk)
                  obtain⟨be,hbe⟩:∃ x,eqP (pix P k) (pix P j)=x:=⟨_,rfl⟩
                  rw[hbe] at hds hdb
                  have hbe:=Lib.hid hbe;rename_i h_;clear h_
                  clear hdf
                  go_upto_region 15 with (fail)
                  refine wp_gen (fun X=> Bl wz X∧∃ g9,Blk X g9 76 #[.bool s8,.slice A8 n8 c8,.slice B8 m8 d8,.bool t8,.slice C8 i8 e8,.slice D8 j8 f8]∧g9=wz.heap.size) ⟨slc,_,by exact bts,rfl⟩ ?_
                  rintro X2 ⟨hbX2,g9,h9,hg9⟩
                  rw[← hg9]
                  clear y0 y1 y2 y3 y4 y5 hg9
                  obtain⟨x0,x1,x2,x3,x4,x5⟩:=bx6 (h7.bl (hbj.next hbX2))
                  obtain⟨z0,z1,z2,z3,z4,z5⟩:=bx6 h9
                  go_wp2_with fail
                  refine(sSamePoint_any _ (hX.bl ((hbX7.next hbj).next hbX2)) (hY.bl ((hbX7.next hbj).next hbX2)) (hX2.bl hbX2) (hY2.bl hbX2)).mono ?_
                  rw[hbe.out]
                  rintro e w8 ⟨rfl,hb8⟩
                  cases be
                  · have hdn:=Lib.hid (hds.out rfl)
                    clear hds hdb
                    go_wp2_with fail
                    go_roundw
                    case rel=> exact⟨j+1,by omega,by go_num,hdn,hbj.next (hbX2.next hb8)⟩
                    case measure=> simp[intOf];omega
                  · have hbd:=Lib.hid (show ¬ (PtsS P ts m n∧3≤n∧n≤40) from fun h=> Bool.noConfusion (hdb.out h))
                    clear hds hdb
                    go_wp2_with fail
                    go_ret
                    exact yres_false hbd.out (hbw.next (hbk7.next (hbj.next (hbX2.next hb8))))
                · have hjk2:j=k:=by omega
                  have hpn:=Lib.hid (hst.out (by rw[hjk2] at hdf;exact hdf.out))
                  clear hdf hst hat
                  obtain rfl:k=j:=hjk2.symm
                  have hkm4:¬ (k:Int) < (k:Int):=by omega
                  go_wp2_with fail
                  go_roundw
                  case rel=> exact⟨k+1,by omega,by go_num,hpn,hbk7.next hbj⟩
                  case measure=> simp[intOf];omega
            · have hbt:bh=false:=Bool.eq_false_iff.2 fun h=> hmem (hbh.out.1 h)
              subst hbt
              have hbd:=Lib.hid (show ¬ (PtsS P ts m n∧3≤n∧n≤40) from fun h=> hmem (hat.out h).2.1)
              clear hbh hmem hat hst
              go_wp2_with fail
              go_ret
              exact yres_false hbd.out (hbw.next ((hbkX.next hb6).next hb7))
          · have hok:=Lib.hid hok;rename_i h_;clear h_
            have hbd:=Lib.hid (show ¬ (PtsS P ts m n∧3≤n∧n≤40) from fun h=> hok.out (hat.out h).1)
            clear hat hst
            refine(sIsValidPoint_no _ (hX.bl hbX) (hY.bl hbX) hok.out).mono ?_
            rintro e w6 ⟨rfl,hb6⟩
            go_wp2_with fail
            go_ret
            exact yres_false hbd.out (hbw.next (hbkX.next hb6))
        · have hnk:n=k:=by omega
          have hall:=Lib.hid (show PtsS P ts m n by rw[hnk];exact hpre.out)
          clear hpre
          obtain rfl:n=k:=hnk
          have hkm4:¬ (n:Int) < (n:Int):=by omega
          obtain⟨r0,r1⟩:=bx2 (h1.bl hbk)
          go_wp2_with fail
          refine(l01In_any _ _ _ _).mono ?_
          rintro e w9 ⟨rfl,q9,hq9⟩
          have hb9:Bl wk w9:=by rw[hq9];exact(Bl.refl wk).drewN q9
          clear hq9
          go_wp2_with fail
          go_ret
          refine⟨_,rfl,?_,hbw.next (hbk.next hb9)⟩
          rw[Bool.and_eq_true,decide_eq_true_iff,decide_eq_true_iff]
          exact⟨fun h =>⟨hall.out,by omega,by omega⟩,fun h =>⟨by have:=h.2.1;omega,by have:=h.2.2;omega⟩⟩
end

end Go.Proofs.YtjaapemopbbfaaaGreat
