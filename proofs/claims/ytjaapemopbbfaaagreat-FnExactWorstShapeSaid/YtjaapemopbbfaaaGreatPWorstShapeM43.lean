/- Lemmas. -/
import Derived.Test.YtjaapemopbbfaaaGreatRows
import Derived.Test.YtjaapemopbbfaaaGreatPWorstShapeM42
import Derived.Test.YtjaapemopbbfaaaGreatPWorstShapeM32
import Derived.Test.YtjaapemopbbfaaaGreatPWorstShapeM03
import Derived.Test.YtjaapemopbbfaaaGreatPWorstShapeM36
import Derived.Test.YtjaapemopbbfaaaGreatPWorstShapeM30
import Derived.Test.YtjaapemopbbfaaaGreatPWorstShapeM28
import Derived.Deep.Cut
import Derived.Deep.DeepCutAuto
namespace Go.Proofs.YtjaapemopbbfaaaGreat
section
open Go.RowKit
theorem l01In_yes (w:World) {a lo hi:Int}(h1:lo≤a) (h2:a≤hi):Calls Tryz.prog 36 #[.int .i64 a,.int .i64 lo,.int .i64 hi] w fun e w'=> e=.returned (.bool true)∧∃ q,w'=w.drewN q:=by
  refine(l01In_any w a lo hi).mono ?_
  rw[decide_eq_true h1,decide_eq_true h2]
  exact fun e w' h=> h
theorem l01In_no (w:World) {a lo hi:Int}(h:¬ (lo≤a∧a≤hi)):Calls Tryz.prog 36 #[.int .i64 a,.int .i64 lo,.int .i64 hi] w fun e w'=> e=.returned (.bool false)∧∃ q,w'=w.drewN q:=by
  refine(l01In_any w a lo hi).mono ?_
  rw[← Bool.decide_and,decide_eq_false h]
  exact fun e w' h=> h

theorem sIsProper_len (w:World) {A:Option Addr}{n c:Nat}(h3:n≠3) :
    Calls Tryz.prog 38 #[.slice A n c] w fun e w'=> e=.returned (.bool false)∧Bl w w':=by
  have hi:((n:Int) != 3)=true:=by simp;omega
  clear h3
  go_enter Tryz.func38,Tryz.ntmps38
  go_wp2_with fail
  go_ret
  exact⟨rfl,slc⟩
def cW (m:MeQ) (k:Nat):List (Rat × Rat):=[kA m k,kB m k,kC m k]
theorem prop_W {m:MeQ}(hf:∀ k,k < m.pts.length→FtP (pix m.pts k)) {k:Nat}(hx:TrIx m.pts.length (pix m.tris k)):propB ((cW m k).map tp)=true↔0 < sgI m (pix m.tris k).a (pix m.tris k).b (pix m.tris k).c:=by
  obtain⟨⟨a0,a1⟩,⟨b0,b1⟩,c0,c1⟩:=hx
  constructor
  · intro h
    have h2:Prop3 ((cW m k).map tp):=Classical.byContradiction fun hk=> by rw[propB_no hk] at h;cases h
    exact(propB_three h2).2.2.2
  · intro h
    refine propB_yes ⟨?_,_,_,_,rfl,h⟩
    intro i hi
    rcases(show i=0∨i=1∨i=2 by simp[cW] at hi;omega) with rfl | rfl | rfl
    · exact(hf _ (by omega)).ok
    · exact(hf _ (by omega)).ok
    · exact(hf _ (by omega)).ok
theorem sepB_W (m:MeQ) (k j:Nat):sepB ((cW m k).map tp) ((cW m j).map tp)=true↔ApI m k j:=by
  have key:∀ a b:Rat × Rat,NoPos (tp a) (tp b) ((cW m j).map tp)↔sepG a b (kA m j) (kB m j) (kC m j):=by
    intro a b
    unfold NoPos sepG sgW
    constructor
    · intro h
      refine⟨?_,?_,?_⟩
      · have:=h 0 (by simp[cW]);exact Int.not_lt.1 this
      · have:=h 1 (by simp[cW]);exact Int.not_lt.1 this
      · have:=h 2 (by simp[cW]);exact Int.not_lt.1 this
    · rintro ⟨h0,h1,h2⟩ i hi
      rcases(show i=0∨i=1∨i=2 by simp[cW] at hi;omega) with rfl | rfl | rfl
      · exact Int.not_lt.2 h0
      · exact Int.not_lt.2 h1
      · exact Int.not_lt.2 h2
  unfold ApI apG
  rw[← key,← key,← key]
  constructor
  · intro h
    unfold sepB at h
    simp only[decide_eq_true_eq] at h
    obtain⟨a,b,c,e,h⟩:=h
    have e:[tp (kA m k),tp (kB m k),tp (kC m k)]=[a,b,c]:=e
    injection e with e1 e
    injection e with e2 e
    injection e with e3 e
    subst e1 e2 e3
    exact h
  · exact fun h=> sepB_yes h
theorem ov_W {m:MeQ}{k j:Nat}(h1:propB ((cW m k).map tp)=true) (h2:propB ((cW m j).map tp)=true):ovB ((cW m k).map tp) ((cW m j).map tp)=false↔ApI m k j∨ApI m j k:=by
  rw[← sepB_W,← sepB_W]
  unfold ovB
  rw[h1,h2]
  cases sepB ((cW m k).map tp) ((cW m j).map tp) <;> cases sepB ((cW m j).map tp) ((cW m k).map tp) <;> simp
theorem cornL_W {m:MeQ}{k:Nat}(hx:TrIx m.pts.length (pix m.tris k)) (hk:k < m.tris.length):cornL ⟨m.pts.map tp,m.tris⟩ (k:Int)=(cW m k).map tp:=by
  obtain⟨⟨a0,a1⟩,⟨b0,b1⟩,c0,c1⟩:=hx
  unfold cornL
  rw[if_pos]
  · show [pix (m.pts.map tp) _,pix (m.pts.map tp) _,pix (m.pts.map tp) _]=_
    rw[Int.toNat_natCast]
    show [pix (m.pts.map tp) (pix m.tris k).a.toNat,pix (m.pts.map tp) (pix m.tris k).b.toNat,pix (m.pts.map tp) (pix m.tris k).c.toNat]=_
    rw[pix_map (by omega),pix_map (by omega),pix_map (by omega)]
    rfl
  · refine⟨⟨by omega,by show (k:Int)≤(m.tris.length:Int) - 1;omega⟩,fun j hj=> ?_⟩
    rw[Int.toNat_natCast]
    show 0≤triIx (pix m.tris k) j∧triIx (pix m.tris k) j≤((m.pts.map tp).length:Int) - 1
    rw[List.length_map]
    rcases(show j=0∨j=1∨j=2 by omega) with rfl | rfl | rfl
    · show 0≤(pix m.tris k).a∧(pix m.tris k).a≤_;omega
    · show 0≤(pix m.tris k).b∧(pix m.tris k).b≤_;omega
    · show 0≤(pix m.tris k).c∧(pix m.tris k).c≤_;omega
theorem cornL_nil {m:MeQ}{k:Nat}(hx:¬ TrIx m.pts.length (pix m.tris k)):cornL ⟨m.pts.map tp,m.tris⟩ (k:Int)=[]:=by
  unfold cornL
  rw[if_neg]
  rintro ⟨_,h⟩
  rw[Int.toNat_natCast] at h
  have h0:0≤(pix m.tris k).a∧(pix m.tris k).a≤((m.pts.map tp).length:Int) - 1:=h 0 (by omega)
  have h1:0≤(pix m.tris k).b∧(pix m.tris k).b≤((m.pts.map tp).length:Int) - 1:=h 1 (by omega)
  have h2:0≤(pix m.tris k).c∧(pix m.tris k).c≤((m.pts.map tp).length:Int) - 1:=h 2 (by omega)
  rw[List.length_map] at h0 h1 h2
  exact hx ⟨by omega,by omega,by omega,by omega⟩
def FarTo (m:MeQ) (k i:Nat):Prop:=∀ j,j < i→FarS m k j=true∨ApI m k j∨ApI m j k
def NoPt (m:MeQ) (a b:Rat × Rat) (p:Nat):Prop:=∀ q:Nat,q < p→¬ insS a b (pix m.pts q)
def NoeTo (m:MeQ) (k j:Nat):Prop:=∀ i,i < j→NoS1 m (pix (cW m k) i) (pix (cW m k) (nx3 i))
/-- What the reference has found of the first k triangles. -/
def SpS (m:MeQ) (k:Nat):Prop:=∀ q,q < k→TriOkS (sgI m) m.pts.length (pix m.tris q)∧FarTo m q q∧NoeTo m q 3
theorem noeTo_iff (m:MeQ) (k:Nat):NoeTo m k 3↔NoS1 m (kA m k) (kB m k)∧NoS1 m (kB m k) (kC m k)∧NoS1 m (kC m k) (kA m k):=by
  constructor
  · intro h
    exact⟨h 0 (by omega),h 1 (by omega),h 2 (by omega)⟩
  · rintro ⟨h0,h1,h2⟩ i hi
    rcases(show i=0∨i=1∨i=2 by omega) with rfl | rfl | rfl
    · exact h0
    · exact h1
    · exact h2
theorem MeS.spS {m:MeQ}(h:MeS m) {k:Nat}(hk:k < m.tris.length):TriOkS (sgI m) m.pts.length (pix m.tris k)∧FarTo m k k∧NoeTo m k 3 :=
  ⟨⟨h.ixs k hk,h.reg k hk,h.pos k hk⟩,h.apart k hk,(noeTo_iff m k).2 (h.noIns k hk)⟩
theorem usL_pts {m:MeQ}{n:Nat}(h:PtsS (m.pts.map tp) m.tris m.tris.length n) (hn:m.pts.length=n):(∀ k,k < m.pts.length→FtP (pix m.pts k))∧(∀ k,k < m.pts.length→∀ j,j < k→pix m.pts k≠pix m.pts j)∧∀ k:Nat,k < m.pts.length→∃ j,j < m.tris.length∧((pix m.tris j).a=k∨(pix m.tris j).b=k∨(pix m.tris j).c=k):=by
  subst hn
  have hp:PtsOk (m.pts.map tp):=fun k hk=> by
    rw[List.length_map] at hk
    exact⟨(h k hk).1,(h k hk).2.2⟩
  exact⟨ptsOk_ft hp,ptsOk_diff hp,fun k hk=> usL_of (h k hk).2.1⟩
theorem meS_of {m:MeQ}(n3:3≤m.pts.length) (n40:m.pts.length≤40) (t1:1≤m.tris.length) (t48:m.tris.length≤48) (hp:PtsS (m.pts.map tp) m.tris m.tris.length m.pts.length) (h:SpS m m.tris.length):MeS m:=by
  obtain⟨h1,h2,h3⟩:=usL_pts hp rfl
  exact⟨⟨n3,n40,t1,t48,h1,h2,fun k hk =>(h k hk).1.1,fun k hk =>(h k hk).1.2.1,fun k hk =>(h k hk).1.2.2,h3⟩,fun k hk =>(h k hk).2.1,fun k hk =>(noeTo_iff m k).1 (h k hk).2.2⟩
theorem MeS.ptsS {m:MeQ}(h:MeS m):PtsS (m.pts.map tp) m.tris m.tris.length m.pts.length:=by
  intro i hi
  have:=h.toI.ptsOk i (by rw[List.length_map];exact hi)
  obtain⟨j,hj,e⟩:=h.used i hi
  exact⟨this.1,usL_mem hj e,this.2⟩
theorem SpS.step {m:MeQ}{k:Nat}(h:SpS m k) (h1:TriOkS (sgI m) m.pts.length (pix m.tris k)) (h2:FarTo m k k) (h3:NoeTo m k 3):SpS m (k+1):=by
  intro q hq
  rcases(show q < k∨q=k by omega) with h4 | rfl
  · exact h q h4
  · exact⟨h1,h2,h3⟩
theorem FarTo.step {m:MeQ}{k i:Nat}(h:FarTo m k i) (h1:FarS m k i=true∨ApI m k i∨ApI m i k):FarTo m k (i+1):=by
  intro q hq
  rcases(show q < i∨q=i by omega) with h4 | rfl
  · exact h q h4
  · exact h1
theorem NoeTo.step {m:MeQ}{k j:Nat}(h:NoeTo m k j) (h1:NoS1 m (pix (cW m k) j) (pix (cW m k) (nx3 j))):NoeTo m k (j+1):=by
  intro q hq
  rcases(show q < j∨q=j by omega) with h4 | rfl
  · exact h q h4
  · exact h1
theorem NoPt.step {m:MeQ}{a b:Rat × Rat}{p:Nat}(h:NoPt m a b p) (h1:¬ insS a b (pix m.pts p)):NoPt m a b (p+1):=by
  intro q hq
  rcases(show q < p∨q=p by omega) with h4 | rfl
  · exact h q h4
  · exact h1
theorem ptsS_ok {P:List PtD}{ts:List TriD}{m:Nat}(h:PtsS P ts m P.length):PtsOk P:=fun k hk =>⟨(h k hk).1,(h k hk).2.2⟩
theorem cW_ft {m:MeQ}(hf:∀ k,k < m.pts.length→FtP (pix m.pts k)) {k:Nat}(hx:TrIx m.pts.length (pix m.tris k)):∀ j,j < (cW m k).length→FtP (pix (cW m k) j):=by
  obtain⟨⟨a0,a1⟩,⟨b0,b1⟩,c0,c1⟩:=hx
  intro j hj
  rcases(show j=0∨j=1∨j=2 by simp[cW] at hj;omega) with rfl | rfl | rfl
  · exact hf _ (by omega)
  · exact hf _ (by omega)
  · exact hf _ (by omega)
end

section
open Go.RowKit

open Classical in
theorem innP_g {a b p:Rat × Rat}(ha:FtP a) (hb:FtP b) (hp:FtP p):innP (subP (tp a) (tp p)) (subP (tp b) (tp p))=if FtN a b p then toR (nW a b p) else zR:=by
  rw[subP_g ha hp,subP_g hb hp]
  by_cases h1:Fit (a.1 - p.1)∧Fit (a.2 - p.2)
  · by_cases h2:Fit (b.1 - p.1)∧Fit (b.2 - p.2)
    · rw[if_pos h1,if_pos h2]
      unfold innP
      rw[show (tp (a.1 - p.1,a.2 - p.2)).x=toR (a.1 - p.1) from rfl,show (tp (a.1 - p.1,a.2 - p.2)).y=toR (a.2 - p.2) from rfl,show (tp (b.1 - p.1,b.2 - p.2)).x=toR (b.1 - p.1) from rfl,show (tp (b.1 - p.1,b.2 - p.2)).y=toR (b.2 - p.2) from rfl,mulR_g h1.1 h2.1,mulR_g h1.2 h2.2]
      by_cases h3:Fit ((a.1 - p.1) * (b.1 - p.1))
      · by_cases h4:Fit ((a.2 - p.2) * (b.2 - p.2))
        · rw[if_pos h3,if_pos h4,addR_g h3 h4]
          by_cases h5:Fit (nW a b p)
          · rw[if_pos (show FtN a b p from ⟨h1,h2,h3,h4,h5⟩),if_pos (show Fit ((a.1 - p.1) * (b.1 - p.1)+(a.2 - p.2) * (b.2 - p.2)) from h5)]
            rfl
          · rw[if_neg (show ¬ FtN a b p from fun h=> h5 h.2.2.2.2),if_neg (show ¬ Fit ((a.1 - p.1) * (b.1 - p.1)+(a.2 - p.2) * (b.2 - p.2)) from h5)]
        · rw[if_neg h4,addR_zr,if_neg (show ¬ FtN a b p from fun h=> h4 h.2.2.2.1)]
      · rw[if_neg h3,addR_zl,if_neg (show ¬ FtN a b p from fun h=> h3 h.2.2.1)]
    · rw[if_neg h2,if_neg (show ¬ FtN a b p from fun h=> h2 h.2.1)]
      unfold innP
      rw[show zP.x=zR from rfl,mulR_zr,addR_zl]
  · rw[if_neg h1,if_neg (show ¬ FtN a b p from fun h=> h1 h.1)]
    unfold innP
    rw[show zP.x=zR from rfl,mulR_zl,addR_zl]
theorem sgnR_lt {q:Rat}(h:Fit q):sgnR (toR q) < 0↔q < 0:=by
  rw[sgnR_toR h]
  by_cases h1:q < 0
  · rw[if_pos h1];exact⟨fun _=> h1,fun _=> by omega⟩
  · rw[if_neg h1]
    exact⟨fun h=> by split at h <;> omega,fun h=> absurd h h1⟩
theorem sgnR_eq0 {q:Rat}(h:Fit q):sgnR (toR q)=0↔q=0:=by
  rw[sgnR_toR h]
  by_cases h1:q < 0
  · rw[if_pos h1];exact⟨fun h=> by omega,fun h=> by grind⟩
  · rw[if_neg h1]
    by_cases h2:0 < q
    · rw[if_pos h2];exact⟨fun h=> by omega,fun h=> by grind⟩
    · rw[if_neg h2];exact⟨fun _=> by grind,fun _=> rfl⟩
theorem okR_zR:okR zR=false:=okR_false.2 not_ok_zR
/-- What l07Inside finds behind the rectangle, step by step. -/
theorem ins_steps {a b p:Rat × Rat}(ha:FtP a) (hb:FtP b) (hp:FtP p) (hx:inBx a b p) {od on:Bool}{sd sn:Int}(hod:okR (dblA (tp a) (tp b) (tp p))=od) (hsd:sgnR (dblA (tp a) (tp b) (tp p))=sd) (hon:okR (innP (subP (tp a) (tp p)) (subP (tp b) (tp p)))=on) (hsn:sgnR (innP (subP (tp a) (tp p)) (subP (tp b) (tp p)))=sn) :
    (od=false→insS a b p)∧(od=true→sd=0→((on=false→insS a b p)∧(on=true→(sn < 0↔insS a b p))))∧(od=true→sd≠0→¬ insS a b p):=by
  rw[dblA_g ha hb hp] at hod hsd
  rw[innP_g ha hb hp] at hon hsn
  by_cases hD:FtD a b p
  · rw[if_pos hD] at hod hsd
    have e1:=sgnR_eq0 hD.2.2.2.2
    rw[hsd] at e1
    rw[okR_true.2 hD.2.2.2.2.ok] at hod
    refine⟨(fun h=> by rw[← hod] at h;cases h),fun _ h0=> ?_,fun _ h0 hi=> ?_⟩
    · have hd0:=e1.1 h0
      by_cases hN:FtN a b p
      · rw[if_pos hN] at hon hsn
        rw[okR_true.2 hN.2.2.2.2.ok] at hon
        have e2:=sgnR_lt hN.2.2.2.2
        rw[hsn] at e2
        refine⟨(fun h=> by rw[← hon] at h;cases h),fun _=> ?_⟩
        rw[e2]
        refine⟨fun h =>⟨hx,.inr ⟨hd0,.inr h⟩⟩,fun h=> ?_⟩
        rcases h.2 with h |⟨_,h | h⟩
        · exact absurd hD h
        · exact absurd hN h
        · exact h
      · rw[if_neg hN,okR_zR] at hon
        exact⟨fun _ =>⟨hx,.inr ⟨hd0,.inl hN⟩⟩,(fun h=> by rw[← hon] at h;cases h)⟩
    · rcases hi.2 with h |⟨h,_⟩
      · exact h hD
      · exact h0 (e1.2 h)
  · have hi:insS a b p:=⟨hx,.inl hD⟩
    rw[if_neg hD,okR_zR] at hod
    exact⟨fun _=> hi,(fun h=> by rw[← hod] at h;cases h),(fun h=> by rw[← hod] at h;cases h)⟩
theorem out4 {x:BxQ}{p:Rat × Rat}(h:outQ x p=false):(¬ p.1 < x.l∧¬ x.r < p.1)∧¬ p.2 < x.lo∧¬ x.hi < p.2:=by
  unfold outQ at h
  simp only[Bool.or_eq_false_iff,decide_eq_false_iff_not] at h
  exact⟨⟨h.1,h.2.1⟩,h.2.2.1,h.2.2.2⟩
theorem out4' {x:BxQ}{p:Rat × Rat}(h0:¬ p.1 < x.l) (h1:¬ x.r < p.1) (h2:¬ p.2 < x.lo) (h3:¬ x.hi < p.2):outQ x p=false:=by
  unfold outQ
  simp only[Bool.or_eq_false_iff,decide_eq_false_iff_not]
  exact⟨h0,h1,h2,h3⟩

theorem RdPS.two {w:World}{g:Nat}{T:TypeId}{s8:Bool}{A8:Option Addr}{n8 c8:Nat}{B8:Option Addr}{m8 d8:Nat}{t8:Bool}{C8:Option Addr}{i8 e8:Nat}{D8:Option Addr}{j8 f8:Nat}{p:PtD}{s9:Bool}{A9:Option Addr}{n9 c9:Nat}{B9:Option Addr}{m9 d9:Nat}{t9:Bool}{C9:Option Addr}{i9 e9:Nat}{D9:Option Addr}{j9 f9:Nat}{q:PtD}(hb:Blk w g T #[.bool s8,.slice A8 n8 c8,.slice B8 m8 d8,.bool t8,.slice C8 i8 e8,.slice D8 j8 f8,.bool s9,.slice A9 n9 c9,.slice B9 m9 d9,.bool t9,.slice C9 i9 e9,.slice D9 j9 f9]) (h:RdR w s8 A8 n8 c8 B8 m8 d8 p.x) (k:RdR w t8 C8 i8 e8 D8 j8 f8 p.y) (h':RdR w s9 A9 n9 c9 B9 m9 d9 q.x) (k':RdR w t9 C9 i9 e9 D9 j9 f9 q.y):RdPS w (some ⟨g,0,none⟩) 2 2 [p,q]:=by
  refine⟨rfl,Nat.le_refl _,by omega,fun i hi =>⟨_,rfl,hb.lt,?_⟩⟩
  rw[Addr.add_lit,Nat.zero_add]
  obtain⟨k0,k1,k2,k3,k4,k5,k6,k7,k8,k9,k10,k11⟩:=bx12 hb
  rcases(show i=0∨i=1 by omega) with rfl | rfl
  · exact⟨_,_,_,_,_,_,_,_,_,_,_,_,_,_,⟨k0,k1,k2,k3,k4,k5⟩,h,k⟩
  · exact⟨_,_,_,_,_,_,_,_,_,_,_,_,_,_,⟨k6,k7,k8,k9,k10,k11⟩,h',k'⟩
set_option maxRecDepth 100000 in
set_option maxHeartbeats 32000000 in
theorem l07Inside_q (w:World) {s7:Bool}{A7:Option Addr}{n7 c7:Nat}{B7:Option Addr}{m7 d7:Nat}{t7:Bool}{C7:Option Addr}{i7 e7:Nat}{D7:Option Addr}{j7 f7:Nat}{s8:Bool}{A8:Option Addr}{n8 c8:Nat}{B8:Option Addr}{m8 d8:Nat}{t8:Bool}{C8:Option Addr}{i8 e8:Nat}{D8:Option Addr}{j8 f8:Nat}{s9:Bool}{A9:Option Addr}{n9 c9:Nat}{B9:Option Addr}{m9 d9:Nat}{t9:Bool}{C9:Option Addr}{i9 e9:Nat}{D9:Option Addr}{j9 f9:Nat}{p a b:Rat × Rat}(hX7:RdR w s7 A7 n7 c7 B7 m7 d7 (tp p).x) (hY7:RdR w t7 C7 i7 e7 D7 j7 f7 (tp p).y) (hX8:RdR w s8 A8 n8 c8 B8 m8 d8 (tp a).x) (hY8:RdR w t8 C8 i8 e8 D8 j8 f8 (tp a).y) (hX9:RdR w s9 A9 n9 c9 B9 m9 d9 (tp b).x) (hY9:RdR w t9 C9 i9 e9 D9 j9 f9 (tp b).y) (hp:FtP p) (ha:FtP a) (hb:FtP b) :
    Calls Tryz.prog 42 #[.agg #[.bool s7,.slice A7 n7 c7,.slice B7 m7 d7,.bool t7,.slice C7 i7 e7,.slice D7 j7 f7],.agg #[.bool s8,.slice A8 n8 c8,.slice B8 m8 d8,.bool t8,.slice C8 i8 e8,.slice D8 j8 f8],.agg #[.bool s9,.slice A9 n9 c9,.slice B9 m9 d9,.bool t9,.slice C9 i9 e9,.slice D9 j9 f9]] w fun e w'=> YRes (insS a b p) w e w':=by
  have hsx:BxSm (bxA [a,b]):=bxTo_sm (l:=[a,b]) (fun k hk=> by rcases(show k=0∨k=1 by simp at hk;omega) with rfl | rfl;exact ha;exact hb) (by simp) 2 (by simp)
  have hsp:Fit p.1∧Fit p.2:=hp
  have hx7:RdR w s7 A7 n7 c7 B7 m7 d7 (toR p.1):=hX7
  have hy7:RdR w t7 C7 i7 e7 D7 j7 f7 (toR p.2):=hY7
  have hnH:=Lib.hid (fun (h:insS a b p)=> out4 ((bxA_2 a b p).2 h.1))
  obtain⟨od,hod⟩:∃ x,okR (dblA (tp a) (tp b) (tp p))=x:=⟨_,rfl⟩
  obtain⟨sd_,hsd⟩:∃ x,sgnR (dblA (tp a) (tp b) (tp p))=x:=⟨_,rfl⟩
  obtain⟨on,hon⟩:∃ x,okR (innP (subP (tp a) (tp p)) (subP (tp b) (tp p)))=x:=⟨_,rfl⟩
  obtain⟨sn_,hsn⟩:∃ x,sgnR (innP (subP (tp a) (tp p)) (subP (tp b) (tp p)))=x:=⟨_,rfl⟩
  have hst:=Lib.hid (fun (hx:inBx a b p)=> ins_steps ha hb hp hx hod hsd hon hsn)
  have hod:=Lib.hid hod;rename_i h_;clear h_
  have hsd:=Lib.hid hsd;rename_i h_;clear h_
  have hon:=Lib.hid hon;rename_i h_;clear h_
  have hsn:=Lib.hid hsn;rename_i h_;clear h_
  have hsab:=Lib.hid (show ∀ k,k < [a,b].length→FtP (pix [a,b] k) from fun k hk=> by rcases(show k=0∨k=1 by simp at hk;omega) with rfl | rfl;exact ha;exact hb)
  go_enter Tryz.func42,Tryz.ntmps42
  go_upto_region 1 with (fail)
  refine wp_gen (fun W=> Bl w W∧∃ g3 g4 g5,Blk W g3 76 #[.bool s7,.slice A7 n7 c7,.slice B7 m7 d7,.bool t7,.slice C7 i7 e7,.slice D7 j7 f7]∧Blk W g4 76 #[.bool s8,.slice A8 n8 c8,.slice B8 m8 d8,.bool t8,.slice C8 i8 e8,.slice D8 j8 f8]∧Blk W g5 76 #[.bool s9,.slice A9 n9 c9,.slice B9 m9 d9,.bool t9,.slice C9 i9 e9,.slice D9 j9 f9]∧g3=w.heap.size∧g4=w.heap.size+1∧g5=w.heap.size+1+1) ⟨slc,_,_,_,by exact bts,by exact bts,by exact bts,rfl,rfl,rfl⟩ ?_
  rintro W ⟨hbw,g3,g4,g5,h3,h4,h5,hg3,hg4,hg5⟩
  rw[← hg5,← hg4,← hg3]
  clear hg3 hg4 hg5
  obtain⟨x0,x1,x2,x3,x4,x5⟩:=bx6 h4
  obtain⟨y0,y1,y2,y3,y4,y5⟩:=bx6 h5
  go_wp2_with fail
  refine calls_gen (fun Y=> Bl W Y∧Blk Y W.heap.size 76 #[.bool s8,.slice A8 n8 c8,.slice B8 m8 d8,.bool t8,.slice C8 i8 e8,.slice D8 j8 f8,.bool s9,.slice A9 n9 c9,.slice B9 m9 d9,.bool t9,.slice C9 i9 e9,.slice D9 j9 f9]) ⟨slc,bts⟩ ?_
  rintro Y ⟨hbY,hs⟩
  have hbwY:=hbw.next hbY
  refine(l07BoxOf_yes _ (l:=[a,b]) (RdPS.two hs (hX8.bl hbwY) (hY8.bl hbwY) (hX9.bl hbwY) (hY9.bl hbwY)) (by omega) hsab.out).mono ?_
  rintro e w2 ⟨u0,u1,u2,u3,u4,u5,u6,u7,u8,u9,u10,u11,rfl,hbx_,hb2⟩
  obtain⟨⟨sx0,Ax0,nx0,cx0,Bx0,mx0,dx0,e00,e01,e02,hRx0⟩,⟨sx1,Ax1,nx1,cx1,Bx1,mx1,dx1,e10,e11,e12,hRx1⟩,⟨sx2,Ax2,nx2,cx2,Bx2,mx2,dx2,e20,e21,e22,hRx2⟩,⟨sx3,Ax3,nx3,cx3,Bx3,mx3,dx3,e30,e31,e32,hRx3⟩⟩:=hbx_
  subst e00 e01 e02 e10 e11 e12 e20 e21 e22 e30 e31 e32
  go_upto_region 2 with (fail)
  refine wp_gen (fun X=> Bl w2 X∧∃ g7,Blk X g7 72 #[.bool sx0,.slice Ax0 nx0 cx0,.slice Bx0 mx0 dx0,.bool sx1,.slice Ax1 nx1 cx1,.slice Bx1 mx1 dx1,.bool sx2,.slice Ax2 nx2 cx2,.slice Bx2 mx2 dx2,.bool sx3,.slice Ax3 nx3 cx3,.slice Bx3 mx3 dx3]∧g7=w2.heap.size) ⟨slc,_,by exact bts,rfl⟩ ?_
  rintro W3 ⟨hbx,g7,h7,hg7⟩
  rw[← hg7]
  have hb3:=(hbY.next hb2).next hbx
  have h3:=h3.bl hb3
  have h4:=h4.bl hb3
  have h5:=h5.bl hb3
  have hbw:=hbw.next hb3
  clear hg7 hb3 hs hbY hbwY hb2 x0 x1 x2 x3 x4 x5 y0 y1 y2 y3 y4 y5
  obtain⟨x0,x1,x2,x3,x4,x5⟩:=bx6 h3
  obtain⟨y0,y1,y2,y3,y4,y5,y6,y7,y8,y9,y10,y11⟩:=bx12 h7
  have hco:=Lib.hid (cmp_lt (p:=p.1) (q:=(bxA [a,b]).l) hsp.1 hsx.1.1)
  by_cases c0:p.1 < (bxA [a,b]).l
  · obtain⟨z,hz,hz2⟩:∃ z,cmpR (toR p.1) (toR (bxA [a,b]).l)=z∧z < 0:=⟨_,rfl,by rw[hco.out.2,if_pos c0];decide⟩
    have hz:=Lib.hid hz
    have hbad:=Lib.hid (fun (h:insS a b p) =>(hnH.out h).1.1 c0)
    clear c0
    go_wp2_with fail
    refine(sRatCmp_yes _ (hx7.bl hbw) (hRx0.bl hbx) hco.out.1).mono ?_
    rw[hz.out]
    rintro e w4 ⟨rfl,hb_⟩
    have h3:=h3.bl hb_
    have h4:=h4.bl hb_
    have h5:=h5.bl hb_
    have h7:=h7.bl hb_
    have hbw:=hbw.next hb_
    have hbx:=hbx.next hb_
    obtain⟨x0,x1,x2,x3,x4,x5⟩:=bx6 h3
    obtain⟨y0,y1,y2,y3,y4,y5,y6,y7,y8,y9,y10,y11⟩:=bx12 h7
    clear hb_
    go_wp2_with fail
    go_ret
    exact yres_false hbad.out slc
  · obtain⟨z0,hz,hz0⟩:∃ z,cmpR (toR p.1) (toR (bxA [a,b]).l)=z∧¬ z < 0:=⟨_,rfl,by rw[hco.out.2,if_neg c0];split <;> (try split) <;> first | omega | contradiction⟩
    have hz:=Lib.hid hz
    go_wp2_with fail
    refine(sRatCmp_yes _ (hx7.bl hbw) (hRx0.bl hbx) hco.out.1).mono ?_
    rw[hz.out]
    rintro e w4 ⟨rfl,hb_⟩
    have h3:=h3.bl hb_
    have h4:=h4.bl hb_
    have h5:=h5.bl hb_
    have h7:=h7.bl hb_
    have hbw:=hbw.next hb_
    have hbx:=hbx.next hb_
    obtain⟨x0,x1,x2,x3,x4,x5⟩:=bx6 h3
    obtain⟨y0,y1,y2,y3,y4,y5,y6,y7,y8,y9,y10,y11⟩:=bx12 h7
    clear hb_
    clear hco hz
    have hco:=Lib.hid (cmp_lt (p:=p.1) (q:=(bxA [a,b]).r) hsp.1 hsx.1.2)
    by_cases c1:(bxA [a,b]).r < p.1
    · obtain⟨z,hz,hz2⟩:∃ z,cmpR (toR p.1) (toR (bxA [a,b]).r)=z∧0 < z:=⟨_,rfl,by rw[hco.out.2,if_neg (by grind),if_pos c1];decide⟩
      have hz:=Lib.hid hz
      have hbad:=Lib.hid (fun (h:insS a b p) =>(hnH.out h).1.2 c1)
      clear c0 c1
      go_wp2_with fail
      refine(sRatCmp_yes _ (hx7.bl hbw) (hRx1.bl hbx) hco.out.1).mono ?_
      rw[hz.out]
      rintro e w5 ⟨rfl,hb_⟩
      have h3:=h3.bl hb_
      have h4:=h4.bl hb_
      have h5:=h5.bl hb_
      have h7:=h7.bl hb_
      have hbw:=hbw.next hb_
      have hbx:=hbx.next hb_
      obtain⟨x0,x1,x2,x3,x4,x5⟩:=bx6 h3
      obtain⟨y0,y1,y2,y3,y4,y5,y6,y7,y8,y9,y10,y11⟩:=bx12 h7
      clear hb_
      go_wp2_with fail
      go_ret
      exact yres_false hbad.out slc
    · obtain⟨z1,hz,hz1⟩:∃ z,cmpR (toR p.1) (toR (bxA [a,b]).r)=z∧¬ 0 < z:=⟨_,rfl,by rw[hco.out.2];split <;> (try split) <;> first | omega | contradiction⟩
      have hz:=Lib.hid hz
      go_wp2_with fail
      refine(sRatCmp_yes _ (hx7.bl hbw) (hRx1.bl hbx) hco.out.1).mono ?_
      rw[hz.out]
      rintro e w5 ⟨rfl,hb_⟩
      have h3:=h3.bl hb_
      have h4:=h4.bl hb_
      have h5:=h5.bl hb_
      have h7:=h7.bl hb_
      have hbw:=hbw.next hb_
      have hbx:=hbx.next hb_
      obtain⟨x0,x1,x2,x3,x4,x5⟩:=bx6 h3
      obtain⟨y0,y1,y2,y3,y4,y5,y6,y7,y8,y9,y10,y11⟩:=bx12 h7
      clear hb_
      clear hco hz
      have hco:=Lib.hid (cmp_lt (p:=p.2) (q:=(bxA [a,b]).lo) hsp.2 hsx.2.1)
      by_cases c2:p.2 < (bxA [a,b]).lo
      · obtain⟨z,hz,hz2⟩:∃ z,cmpR (toR p.2) (toR (bxA [a,b]).lo)=z∧z < 0:=⟨_,rfl,by rw[hco.out.2,if_pos c2];decide⟩
        have hz:=Lib.hid hz
        have hbad:=Lib.hid (fun (h:insS a b p) =>(hnH.out h).2.1 c2)
        clear c0 c1 c2
        go_wp2_with fail
        refine(sRatCmp_yes _ (hy7.bl hbw) (hRx2.bl hbx) hco.out.1).mono ?_
        rw[hz.out]
        rintro e w6 ⟨rfl,hb_⟩
        have h3:=h3.bl hb_
        have h4:=h4.bl hb_
        have h5:=h5.bl hb_
        have h7:=h7.bl hb_
        have hbw:=hbw.next hb_
        have hbx:=hbx.next hb_
        obtain⟨x0,x1,x2,x3,x4,x5⟩:=bx6 h3
        obtain⟨y0,y1,y2,y3,y4,y5,y6,y7,y8,y9,y10,y11⟩:=bx12 h7
        clear hb_
        go_wp2_with fail
        go_ret
        exact yres_false hbad.out slc
      · obtain⟨z2,hz,hz2⟩:∃ z,cmpR (toR p.2) (toR (bxA [a,b]).lo)=z∧¬ z < 0:=⟨_,rfl,by rw[hco.out.2,if_neg c2];split <;> (try split) <;> first | omega | contradiction⟩
        have hz:=Lib.hid hz
        go_wp2_with fail
        refine(sRatCmp_yes _ (hy7.bl hbw) (hRx2.bl hbx) hco.out.1).mono ?_
        rw[hz.out]
        rintro e w6 ⟨rfl,hb_⟩
        have h3:=h3.bl hb_
        have h4:=h4.bl hb_
        have h5:=h5.bl hb_
        have h7:=h7.bl hb_
        have hbw:=hbw.next hb_
        have hbx:=hbx.next hb_
        obtain⟨x0,x1,x2,x3,x4,x5⟩:=bx6 h3
        obtain⟨y0,y1,y2,y3,y4,y5,y6,y7,y8,y9,y10,y11⟩:=bx12 h7
        clear hb_
        clear hco hz
        have hco:=Lib.hid (cmp_lt (p:=p.2) (q:=(bxA [a,b]).hi) hsp.2 hsx.2.2)
        by_cases c3:(bxA [a,b]).hi < p.2
        · obtain⟨z,hz,hz2⟩:∃ z,cmpR (toR p.2) (toR (bxA [a,b]).hi)=z∧0 < z:=⟨_,rfl,by rw[hco.out.2,if_neg (by grind),if_pos c3];decide⟩
          have hz:=Lib.hid hz
          have hbad:=Lib.hid (fun (h:insS a b p) =>(hnH.out h).2.2 c3)
          clear c0 c1 c2 c3
          go_wp2_with fail
          refine(sRatCmp_yes _ (hy7.bl hbw) (hRx3.bl hbx) hco.out.1).mono ?_
          rw[hz.out]
          rintro e w7 ⟨rfl,hb_⟩
          have h3:=h3.bl hb_
          have h4:=h4.bl hb_
          have h5:=h5.bl hb_
          have h7:=h7.bl hb_
          have hbw:=hbw.next hb_
          have hbx:=hbx.next hb_
          obtain⟨x0,x1,x2,x3,x4,x5⟩:=bx6 h3
          obtain⟨y0,y1,y2,y3,y4,y5,y6,y7,y8,y9,y10,y11⟩:=bx12 h7
          clear hb_
          go_wp2_with fail
          go_ret
          exact yres_false hbad.out slc
        · obtain⟨z3,hz,hz3⟩:∃ z,cmpR (toR p.2) (toR (bxA [a,b]).hi)=z∧¬ 0 < z:=⟨_,rfl,by rw[hco.out.2];split <;> (try split) <;> first | omega | contradiction⟩
          have hz:=Lib.hid hz
          go_wp2_with fail
          refine(sRatCmp_yes _ (hy7.bl hbw) (hRx3.bl hbx) hco.out.1).mono ?_
          rw[hz.out]
          rintro e w7 ⟨rfl,hb_⟩
          have h3:=h3.bl hb_
          have h4:=h4.bl hb_
          have h5:=h5.bl hb_
          have h7:=h7.bl hb_
          have hbw:=hbw.next hb_
          have hbx:=hbx.next hb_
          obtain⟨x0,x1,x2,x3,x4,x5⟩:=bx6 h3
          obtain⟨y0,y1,y2,y3,y4,y5,y6,y7,y8,y9,y10,y11⟩:=bx12 h7
          clear hb_
          clear hco hz
          have hres:=Lib.hid (hst.out ((bxA_2 a b p).1 (out4' c0 c1 c2 c3)))
          clear c0 c1 c2 c3 hsx
          obtain⟨p0,p1,p2,p3,p4,p5⟩:=bx6 h4
          obtain⟨q0,q1,q2,q3,q4,q5⟩:=bx6 h5
          go_wp2_with fail
          refine(sDoubleArea_any _ (hX8.bl hbw) (hY8.bl hbw) (hX9.bl hbw) (hY9.bl hbw) (hX7.bl hbw) (hY7.bl hbw)).mono ?_
          rintro e w8 ⟨sd,Ad,nd,cd,Bd,md,dd,rfl,hRd,hb8⟩
          go_upto_region 5 with (fail)
          refine wp_gen (fun X=> Bl w8 X∧∃ g8,Blk X g8 31 #[.bool sd,.slice Ad nd cd,.slice Bd md dd]∧g8=w8.heap.size) ⟨slc,_,by exact bts,rfl⟩ ?_
          rintro W5 ⟨hb5,g8,h8,hg8⟩
          rw[← hg8]
          have hRd:=hRd.rd.bl hb5
          have h3:=h3.bl (hb8.next hb5)
          have h4:=h4.bl (hb8.next hb5)
          have h5:=h5.bl (hb8.next hb5)
          have hbw:=hbw.next (hb8.next hb5)
          replace hX7:=hX7.bl hbw
          replace hY7:=hY7.bl hbw
          replace hX8:=hX8.bl hbw
          replace hY8:=hY8.bl hbw
          replace hX9:=hX9.bl hbw
          replace hY9:=hY9.bl hbw
          clear hg8 hb8 hb5
          go_cut [9] (fun sl9 wx=> ∃ (g9:Nat) (sn:Bool) (An:Option Addr) (nn cn:Nat) (Bn:Option Addr) (mn dn:Nat),sl9=.pointer (some ⟨g9,0,none⟩)∧Blk wx g9 31 #[.bool sn,.slice An nn cn,.slice Bn mn dn]∧RdR wx sn An nn cn Bn mn dn (innP (subP (tp a) (tp p)) (subP (tp b) (tp p)))∧Bl W5 wx)
          case first =>
            go_region_held3 (fun w' =>(w'.cell? ⟨g3,0,none⟩=some (.bool s7)∧w'.cell? ⟨g3,1,none⟩=some (.slice A7 n7 c7)∧w'.cell? ⟨g3,2,none⟩=some (.slice B7 m7 d7)∧w'.cell? ⟨g3,3,none⟩=some (.bool t7)∧w'.cell? ⟨g3,4,none⟩=some (.slice C7 i7 e7)∧w'.cell? ⟨g3,5,none⟩=some (.slice D7 j7 f7))∧(w'.cell? ⟨g4,0,none⟩=some (.bool s8)∧w'.cell? ⟨g4,1,none⟩=some (.slice A8 n8 c8)∧w'.cell? ⟨g4,2,none⟩=some (.slice B8 m8 d8)∧w'.cell? ⟨g4,3,none⟩=some (.bool t8)∧w'.cell? ⟨g4,4,none⟩=some (.slice C8 i8 e8)∧w'.cell? ⟨g4,5,none⟩=some (.slice D8 j8 f8))∧(w'.cell? ⟨g5,0,none⟩=some (.bool s9)∧w'.cell? ⟨g5,1,none⟩=some (.slice A9 n9 c9)∧w'.cell? ⟨g5,2,none⟩=some (.slice B9 m9 d9)∧w'.cell? ⟨g5,3,none⟩=some (.bool t9)∧w'.cell? ⟨g5,4,none⟩=some (.slice C9 i9 e9)∧w'.cell? ⟨g5,5,none⟩=some (.slice D9 j9 f9))) (first | exact⟨bx6 (T:=76) (h3.bl slc),bx6 (T:=76) (h4.bl slc),bx6 (T:=76) (h5.bl slc)⟩) (first |(go_at_call 43;(with_reducible refine(sSubtractPoints_any _ (hX8.bl slc) (hY8.bl slc) (hX7.bl slc) (hY7.bl slc)).mono ?_);rintro e w6 ⟨s1,A1,n1,c1,B1,m1,d1,t1,C1,i1,e1,D1,j1,f1,rfl,hP1,hb6⟩;(have hz6:W5.heap.size≤w6.heap.size:=Bl.size (by exact slc));(first | have hq:Wk 3 31 _ _:=wk_newd hb6 | have hq:Wk 3 31 _ _:=wk_new hb6 | have hq:Wk 3 31 _ _:=Wk.bl hq hb6 | skip)) |(go_at_call 43;(with_reducible refine(sSubtractPoints_any _ (hX9.bl slc) (hY9.bl slc) (hX7.bl slc) (hY7.bl slc)).mono ?_);rintro e w7 ⟨s2,A2,n2,c2,B2,m2,d2,t2,C2,i2,e2,D2,j2,f2,rfl,hP2,hb7⟩;(have hz7:W5.heap.size≤w7.heap.size:=Bl.size (by exact slc));(first | have hq:Wk 3 31 _ _:=wk_newd hb7 | have hq:Wk 3 31 _ _:=wk_new hb7 | have hq:Wk 3 31 _ _:=Wk.bl hq hb7 | skip)) |(go_at_call 44;(with_reducible refine(sInner_any _ (hP1.rx.bl slc) (hP1.ry.bl slc) (hP2.rx.bl slc) (hP2.ry.bl slc)).mono ?_);rintro e w8 ⟨s8_,A8_,n8_,c8_,B8_,m8_,d8_,rfl,hR8,hb8⟩;(have hz8:W5.heap.size≤w8.heap.size:=Bl.size (by exact slc));(first | have hq:Wk 3 31 _ _:=wk_newd hb8 | have hq:Wk 3 31 _ _:=wk_new hb8 | have hq:Wk 3 31 _ _:=Wk.bl hq hb8 | skip);(try obtain⟨⟨q0,q1,q2⟩,fz0,fz1,fz2⟩:=hq.out3)))
            · go_wp2_with fail
              go_meet
              exact⟨w8.heap.size,_,_,_,_,_,_,_,rfl,Blk.new _ _ _,by exact hR8.rd.bl slc,slc⟩
            · go_wp2_with fail
              go_meet
              exact⟨w7.heap.size,_,_,_,_,_,_,_,rfl,Wk.put3 hq _ _ _,by exact(OwR.put3 (hR8.mono (Nat.zero_le _)) hq ne_ir _ _ _).rd,slc⟩
            · go_wp2_with fail
              go_meet
              exact⟨w6.heap.size,_,_,_,_,_,_,_,rfl,Wk.put3 hq _ _ _,by exact(OwR.put3 (hR8.mono (Nat.zero_le _)) hq ne_ir _ _ _).rd,slc⟩
            · go_wp2_with fail
              go_meet
              exact⟨W5.heap.size,_,_,_,_,_,_,_,rfl,Wk.put3 hq _ _ _,by exact(OwR.put3 (hR8.mono (Nat.zero_le _)) hq ne_ir _ _ _).rd,slc⟩
          case rest =>
            obtain⟨g9,sn,An,nn,cn,Bn,mn,dn,rfl,h9,hRn,hbc⟩:=hcut
            obtain⟨W6,rfl⟩:∃ W6:World,W6=wc:=⟨_,rfl⟩
            have hbw:=hbw.next hbc
            have h8:=h8.bl hbc
            have hRd:=hRd.bl hbc
            clear hbc
            obtain⟨x0,x1,x2⟩:=bx3 h8
            go_wp2_with fail
            refine(sRatOk_any _ hRd).mono ?_
            rw[hod.out]
            rintro e w9 ⟨rfl,hb9⟩
            cases od
            · have hr:=Lib.hid (hres.out.1 rfl)
              clear hres
              go_wp2_with fail
              go_ret
              exact yres_true hr.out slc
            · have hres2:=Lib.hid (hres.out.2.1 rfl)
              have hres3:=Lib.hid (hres.out.2.2 rfl)
              clear hres
              obtain⟨x0,x1,x2⟩:=bx3 (h8.bl hb9)
              go_wp2_with fail
              refine(sRatSign_any _ (hRd.bl hb9)).mono ?_
              rw[hsd.out]
              rintro e w10 ⟨rfl,hb10⟩
              have hb910:=hb9.next hb10
              by_cases hd0:sd_=0
              · subst hd0
                have hres:=Lib.hid (hres2.out rfl)
                clear hres2 hres3
                obtain⟨y0,y1,y2⟩:=bx3 (h9.bl hb910)
                go_wp2_with fail
                refine(sRatOk_any _ (hRn.bl hb910)).mono ?_
                rw[hon.out]
                rintro e w11 ⟨rfl,hb11⟩
                cases on
                · have hr:=Lib.hid (hres.out.1 rfl)
                  clear hres
                  go_wp2_with fail
                  go_ret
                  exact yres_true hr.out slc
                · have hrs:=Lib.hid (hres.out.2 rfl)
                  clear hres
                  obtain⟨y0,y1,y2⟩:=bx3 (h9.bl (hb910.next hb11))
                  go_wp2_with fail
                  refine(sRatSign_any _ (hRn.bl (hb910.next hb11))).mono ?_
                  rw[hsn.out]
                  rintro e w12 ⟨rfl,hb12⟩
                  go_wp2_with fail
                  go_ret
                  exact⟨_,rfl,decide_eq_true_iff.trans hrs.out,slc⟩
              · have hd1:(sd_ == 0)=false:=by simpa using hd0
                have hr:=Lib.hid (hres3.out hd0)
                have hd0:=Lib.hid hd0;rename_i h_;clear h_
                clear hres2 hres3
                go_wp2_with fail
                go_ret
                exact yres_false hr.out slc
end

end Go.Proofs.YtjaapemopbbfaaaGreat
