/- Lemmas. -/
import Derived.Test.YtjaapemopbbfaaaGreatRows
import Derived.Test.YtjaapemopbbfaaaGreatPWorstShapeM19
import Derived.IntWalk
import Derived.Lib.MinMax
import Derived.Deep.Cut
import Derived.Deep.DeepCutAuto
import Derived.Test.YtjaapemopbbfaaaGreatPWorstShapeM21
namespace Go.Proofs.YtjaapemopbbfaaaGreat
section
open Go.RowKit

theorem signOf_q (w:World) (v:Int):Calls Tryz.prog 118 #[.int .i64 v] w fun e w'=> e=.returned (.int .i64 (cmpZ v 0))∧w'=w:=by
  rcases Int.lt_or_le v 0 with h | h
  · have hv:=Lib.hid (show cmpZ v 0=-1 by unfold cmpZ;rw[if_pos h])
    go_enter Tryz.func118,Tryz.ntmps118
    go_wp2_with fail
    go_ret
    exact⟨ret_int hv.out.symm,rfl⟩
  · rcases Int.lt_or_le 0 v with h' | h'
    · have hv:=Lib.hid (show cmpZ v 0=1 by unfold cmpZ;rw[if_neg (by omega),if_pos h'])
      go_enter Tryz.func118,Tryz.ntmps118
      go_wp2_with fail
      go_ret
      exact⟨ret_int hv.out.symm,rfl⟩
    · have hv:=Lib.hid (show cmpZ v 0=0 by unfold cmpZ;rw[if_neg (by omega),if_neg (by omega)])
      go_enter Tryz.func118,Tryz.ntmps118
      go_wp2_with fail
      go_ret
      exact⟨ret_int hv.out.symm,rfl⟩

set_option maxRecDepth 100000 in
set_option maxHeartbeats 16000000 in
theorem turn_any (w:World) {gp gx gy np cp n cx cy:Nat}{xs ys:List Int}(hx:RdI w (some ⟨gx,0,none⟩) n cx xs) (hy:RdI w (some ⟨gy,0,none⟩) n cy ys) (hB:PlB n xs ys) (a b c:Int) (ha:0≤a) (ha2:a < n) (hb:0≤b) (hb2:b < n) (hc:0≤c) (hc2:c < n) :
    Calls Tryz.prog 104 #[.agg #[.slice (some ⟨gp,0,none⟩) np cp,.slice (some ⟨gx,0,none⟩) n cx,.slice (some ⟨gy,0,none⟩) n cy],.int .i64 a,.int .i64 b,.int .i64 c] w fun e w'=> e=.returned (.int .i64 (trn xs ys a b c))∧Bl w w':=by
  have hns:=hx.small
  obtain⟨h1,h2,h3,h4⟩:=hB a.toNat (by omega)
  obtain⟨h5,h6,h7,h8⟩:=hB b.toNat (by omega)
  obtain⟨h9,h10,h11,h12⟩:=hB c.toNat (by omega)
  obtain⟨r,hr⟩:∃ r,trn xs ys a b c=r:=⟨_,rfl⟩
  rw[hr]
  unfold trn at hr
  obtain⟨d1,e1⟩:∃ d,ix xs b.toNat - ix xs a.toNat=d:=⟨_,rfl⟩
  obtain⟨d2,e2⟩:∃ d,ix ys c.toNat - ix ys a.toNat=d:=⟨_,rfl⟩
  obtain⟨d3,e3⟩:∃ d,ix ys b.toNat - ix ys a.toNat=d:=⟨_,rfl⟩
  obtain⟨d4,e4⟩:∃ d,ix xs c.toNat - ix xs a.toNat=d:=⟨_,rfl⟩
  rw[e1,e2,e3,e4] at hr
  obtain⟨m1,m2⟩:=mul_bd (a:=d1) (b:=d2) (by omega) (by omega) (by omega) (by omega)
  obtain⟨m3,m4⟩:=mul_bd (a:=d3) (b:=d4) (by omega) (by omega) (by omega) (by omega)
  obtain⟨p1,e5⟩:∃ d,d1 * d2=d:=⟨_,rfl⟩
  obtain⟨p2,e6⟩:∃ d,d3 * d4=d:=⟨_,rfl⟩
  rw[e5,e6] at hr
  rw[e5] at m1 m2
  rw[e6] at m3 m4
  have hr:=Lib.hid hr;rename_i h_;clear h_
  have f1:IntKind.i64.wrap (ix xs b.toNat - ix xs a.toNat)=d1:=by rw[IntWalk.i64_in _ (by omega),e1]
  have f2:IntKind.i64.wrap (ix ys c.toNat - ix ys a.toNat)=d2:=by rw[IntWalk.i64_in _ (by omega),e2]
  have f3:IntKind.i64.wrap (ix ys b.toNat - ix ys a.toNat)=d3:=by rw[IntWalk.i64_in _ (by omega),e3]
  have f4:IntKind.i64.wrap (ix xs c.toNat - ix xs a.toNat)=d4:=by rw[IntWalk.i64_in _ (by omega),e4]
  have f5:IntKind.i64.wrap (d1 * d2)=p1:=by rw[IntWalk.i64_in _ (by omega),e5]
  have f6:IntKind.i64.wrap (d3 * d4)=p2:=by rw[IntWalk.i64_in _ (by omega),e6]
  have f7:IntKind.i64.wrap (p1 - p2)=p1 - p2:=IntWalk.i64_in _ (by omega)
  clear e1 e2 e3 e4 e5 e6
  go_enter Tryz.func104,Tryz.ntmps104
  go_wp2_with fail
  refine wp_gen (fun W=> Bl w W∧Blk W w.heap.size 90 #[.slice (some ⟨gp,0,none⟩) np cp,.slice (some ⟨gx,0,none⟩) n cx,.slice (some ⟨gy,0,none⟩) n cy]) ⟨slc,bts⟩ ?_
  rintro W ⟨hbW,hBx⟩
  have xa:=rdi_lit (hx.bl hbW) (k:=a.toNat) (by omega)
  have ya:=rdi_lit (hy.bl hbW) (k:=a.toNat) (by omega)
  have xb:=rdi_lit (hx.bl hbW) (k:=b.toNat) (by omega)
  have yb:=rdi_lit (hy.bl hbW) (k:=b.toNat) (by omega)
  have xc:=rdi_lit (hx.bl hbW) (k:=c.toNat) (by omega)
  have yc:=rdi_lit (hy.bl hbW) (k:=c.toNat) (by omega)
  obtain⟨z0,z1,z2⟩:=bx3 hBx
  clear hB hx hy
  go_quiet ((go_at_call 118;exact Calls.quiet_of_same (signOf_q _ _)))
  go_wp2_with fail
  go_ret
  exact⟨ret_int (by rw[← hr.out]),slc⟩
end

section
open Go.RowKit

/-- The corners are numbers of points. -/
def TrIx (n:Nat) (t:TriD):Prop:=(0≤t.a∧t.a < n)∧(0≤t.b∧t.b < n)∧0≤t.c∧t.c < n
instance (n:Nat) (t:TriD):Decidable (TrIx n t):=by unfold TrIx;infer_instance
theorem Blk.new4 (w:World) (o0 o1 o2 o3:Obj) (T:TypeId) (cs:Array Value):Blk (((((w.alloc o0).alloc o1).alloc o2).alloc o3).alloc (.cells cs T)) (w.heap.size+1+1+1+1) T cs:=by
  have h:=heap_alloc_new ((((w.alloc o0).alloc o1).alloc o2).alloc o3) (.cells cs T)
  have e:((((w.alloc o0).alloc o1).alloc o2).alloc o3).heap.size=w.heap.size+1+1+1+1:=by simp
  rw[e] at h
  exact h
theorem Blk.new5 (w:World) (o0 o1 o2 o3 o4:Obj) (T:TypeId) (cs:Array Value):Blk ((((((w.alloc o0).alloc o1).alloc o2).alloc o3).alloc o4).alloc (.cells cs T)) (w.heap.size+1+1+1+1+1) T cs:=by
  have h:=heap_alloc_new (((((w.alloc o0).alloc o1).alloc o2).alloc o3).alloc o4) (.cells cs T)
  have e:(((((w.alloc o0).alloc o1).alloc o2).alloc o3).alloc o4).heap.size=w.heap.size+1+1+1+1+1:=by simp
  rw[e] at h
  exact h
theorem b45 {P:Prop}(h:P:=by repeat (first | with_reducible assumption | with_reducible exact Blk.new _ _ _ | with_reducible exact Blk.new1 _ _ _ _ | with_reducible exact Blk.new2 _ _ _ _ _ | with_reducible exact Blk.new3 _ _ _ _ _ _ | with_reducible exact Blk.new4 _ _ _ _ _ _ _ | with_reducible exact Blk.new5 _ _ _ _ _ _ _ _ | with_reducible refine Blk.drew ?_ | with_reducible refine Blk.alloc ?_ _)):P:=h
set_option maxHeartbeats 1600000 in
theorem corners_eq (w:World) (t:TriD) :
    Calls Tryz.prog 59 #[.agg #[.int .i64 t.a,.int .i64 t.b,.int .i64 t.c,.int .i64 t.region,.int .i64 t.level]] w fun e w'=> e=.returned (.agg #[.int .i64 t.a,.int .i64 t.b,.int .i64 t.c])∧w'=(w.alloc (.cells #[.int .i64 t.a,.int .i64 t.b,.int .i64 t.c,.int .i64 t.region,.int .i64 t.level] 69)).alloc (.cells #[.int .i64 t.a,.int .i64 t.b,.int .i64 t.c] 94):=by
  go_enter Tryz.func59,Tryz.ntmps59
  go_wp2
  refine bodyPost_ret (v:=.agg #[.int .i64 t.a,.int .i64 t.b,.int .i64 t.c]) (by simp[results,Tryz.results59,go_sem]) rfl ⟨rfl,rfl⟩
end

section
open Go.RowKit

theorem within_yes (w:World) {a lo hi:Int}(h1:lo≤a) (h2:a≤hi) :
    Calls Tryz.prog 56 #[.int .i64 a,.int .i64 lo,.int .i64 hi] w fun e w'=> e=.returned (.bool true)∧∃ q,w'=w.drewN q:=by
  refine(within_any w a lo hi).mono ?_
  rw[decide_eq_true h1,decide_eq_true h2]
  exact fun _ _ h=> h
theorem within_no (w:World) {a lo hi:Int}(h:¬ (lo≤a∧a≤hi)) :
    Calls Tryz.prog 56 #[.int .i64 a,.int .i64 lo,.int .i64 hi] w fun e w'=> e=.returned (.bool false)∧∃ q,w'=w.drewN q:=by
  refine(within_any w a lo hi).mono ?_
  have e:(decide (lo≤a) && decide (a≤hi))=false:=by
    by_cases h1:lo≤a
    · rw[decide_eq_false (fun h2:a≤hi=> h ⟨h1,h2⟩),Bool.and_false]
    · rw[decide_eq_false h1,Bool.false_and]
  rw[e]
  exact fun _ _ h=> h
/-- c lies inside the edge from a to b. -/
def insI (xs ys:List Int) (a b c:Int):Prop :=
  trn xs ys a b c=0∧(min (ix xs a.toNat) (ix xs b.toNat)≤ix xs c.toNat∧ix xs c.toNat≤max (ix xs a.toNat) (ix xs b.toNat))∧min (ix ys a.toNat) (ix ys b.toNat)≤ix ys c.toNat∧ix ys c.toNat≤max (ix ys a.toNat) (ix ys b.toNat)
instance (xs ys:List Int) (a b c:Int):Decidable (insI xs ys a b c):=by unfold insI;infer_instance
end

section
open Go.RowKit

def TrsIx (n:Nat) (ts:List TriD):Prop:=∀ k,k < ts.length→TrIx n (pix ts k)
instance (n:Nat) (ts:List TriD):Decidable (TrsIx n ts):=by unfold TrsIx;infer_instance
theorem trs_lit {w:World}{g n c:Nat}{l:List TriD}(h:RdTS w (some ⟨g,0,none⟩) n c l) {k:Nat}(hk:k < n) :
    w.cell? ⟨g, k * 5, none⟩ = some (.int .i64 (pix l k).a) ∧ w.cell? ⟨g, k * 5 + 1, none⟩ = some (.int .i64 (pix l k).b) ∧ w.cell? ⟨g, k * 5 + 2, none⟩ = some (.int .i64 (pix l k).c) ∧
      w.cell? ⟨g,k * 5+3,none⟩=some (.int .i64 (pix l k).region)∧w.cell? ⟨g,k * 5+4,none⟩=some (.int .i64 (pix l k).level):=by
  obtain⟨_,e,_,hc⟩:=h.cells k hk
  cases e
  rw[Addr.add_lit,Nat.zero_add] at hc
  exact hc
end

section
open Go.RowKit

theorem pts_lit {w:World}{g n c:Nat}{l:List PtD}(h:RdPS w (some ⟨g,0,none⟩) n c l) {k:Nat}(hk:k < n):PtAt w ⟨g,k * 6,none⟩ (pix l k):=by
  obtain⟨_,e,_,hc⟩:=h.cells k hk
  cases e
  rw[Addr.add_lit,Nat.zero_add] at hc
  exact hc
/-- Points that are valid and different. -/
def PtsOk (l:List PtD):Prop:=∀ k,k < l.length→OkP (pix l k)∧∀ j,j < k→eqP (pix l k) (pix l j)=false

set_option maxRecDepth 100000 in
set_option maxHeartbeats 16000000 in
theorem arePointsF_any (w:World) {s1:Bool}{A1:Option Addr}{n1 c1:Nat}{B1:Option Addr}{m1 d1:Nat}{t1:Bool}{C1:Option Addr}{i1 e1:Nat}{D1:Option Addr}{j1 f1:Nat}{q:PtD}{gb:Nat}(qb:Blk w gb 76 #[.bool s1,.slice A1 n1 c1,.slice B1 m1 d1,.bool t1,.slice C1 i1 e1,.slice D1 j1 f1]) (hx1:RdR w s1 A1 n1 c1 B1 m1 d1 q.x) (hy1:RdR w t1 C1 i1 e1 D1 j1 f1 q.y) {s2:Bool}{A2:Option Addr}{n2 c2:Nat}{B2:Option Addr}{m2 d2:Nat}{t2:Bool}{C2:Option Addr}{i2 e2:Nat}{D2:Option Addr}{j2 f2:Nat}{p:PtD}(hx:RdR w s2 A2 n2 c2 B2 m2 d2 p.x) (hy:RdR w t2 C2 i2 e2 D2 j2 f2 p.y) :
    Calls Tryz.prog 99 #[.agg #[.bool s2,.slice A2 n2 c2,.slice B2 m2 d2,.bool t2,.slice C2 i2 e2,.slice D2 j2 f2],.pointer (some ⟨gb,0,none⟩)] w fun en w'=> en=.returned (.bool (eqP q p))∧Bl w w':=by
  go_enter Tryz.func99,Tryz.ntmps99
  have eb:=qb.alloc (.cells #[.bool s2,.slice A2 n2 c2,.slice B2 m2 d2,.bool t2,.slice C2 i2 e2,.slice D2 j2 f2] 76)
  obtain⟨j0,j1,j2,j3,j4,j5⟩:=bx6 eb
  go_wp2_with fail
  refine(SamePoint_any _ (hx1.bl slc) (hy1.bl slc) (hx.bl slc) (hy.bl slc)).mono ?_
  rintro e w1 ⟨rfl,hb1⟩
  go_wp2_with fail
  go_ret
  exact⟨rfl,slc⟩
def NoEq (q:PtD) (l:List PtD):Prop:=∀ k,k < l.length→eqP q (pix l k)=false
set_option maxRecDepth 100000 in
set_option maxHeartbeats 4000000 in
theorem IndexEq_no (w:World) {s1:Bool}{A1:Option Addr}{n1 c1:Nat}{B1:Option Addr}{m1 d1:Nat}{t1:Bool}{C1:Option Addr}{i1 e1:Nat}{D1:Option Addr}{j1 f1:Nat}{q:PtD}{gb:Nat}(qb:Blk w gb 76 #[.bool s1,.slice A1 n1 c1,.slice B1 m1 d1,.bool t1,.slice C1 i1 e1,.slice D1 j1 f1]) (hx1:RdR w s1 A1 n1 c1 B1 m1 d1 q.x) (hy1:RdR w t1 C1 i1 e1 D1 j1 f1 q.y) {g9 n9 c9:Nat}{l:List PtD}(hl9:RdPS w (some ⟨g9,0,none⟩) n9 c9 l) (hno:NoEq q l) :
    Calls Tryz.prog 136 #[.slice (some ⟨g9,0,none⟩) n9 c9,.func (.func 99) #[] #[.pointer (some ⟨gb,0,none⟩)]] w fun e w'=> e=.returned (.int .i64 (-1))∧Bl w w':=by
  have hn:=hl9.small
  have hl:=Lib.hid hl9.len
  have hno:=Lib.hid hno;rename_i h_;clear h_
  go_enter Tryz.func136,Tryz.ntmps136
  go_wp2_with fail
  go_loopw [8] (fun i wr=> ∃ k:Nat,k≤n9∧i=.int .i64 (k:Int)∧Bl w wr) (fun i _=> n9 - (intOf i).toNat)
  case atStart=> exact⟨0,Nat.zero_le _,rfl,Bl.refl _⟩
  case round =>
    obtain⟨k9,hk,rfl,hbw⟩:=hrel
    by_cases hkn:k9 < n9
    · have hki:(k9:Int) < (n9:Int):=by omega
      obtain⟨s2,A2,n2,c2,B2,m2,d2,t2,C2,i2,e2,D2,j2,f2,⟨y0,y1,y2,y3,y4,y5⟩,hx,hy⟩:=pts_lit (RdPS.bl hl9 hbw) hkn
      have ho:=Lib.hid (hno.out k9 (by rw[hl.out];exact hkn))
      go_wp2_with fail
      refine(arePointsF_any _ (qb.bl hbw) (hx1.bl hbw) (hy1.bl hbw) hx hy).mono ?_
      rw[ho.out]
      rintro e w1 ⟨rfl,hb1⟩
      have hb2:Bl w w1:=slc
      clear hb1
      go_wp2_with fail
      go_roundw
      case rel=> exact⟨k9+1,by omega,by go_num,hb2⟩
      case measure=> simp[intOf];omega
    · obtain rfl:k9=n9:=by omega
      have hkm2:¬ (k9:Int) < (k9:Int):=by omega
      go_wp2_with fail
      go_ret
      exact⟨rfl,hbw⟩
theorem ContainsEq_no (w:World) {s1:Bool}{A1:Option Addr}{n1 c1:Nat}{B1:Option Addr}{m1 d1:Nat}{t1:Bool}{C1:Option Addr}{i1 e1:Nat}{D1:Option Addr}{j1 f1:Nat}{q:PtD}{gb:Nat}(qb:Blk w gb 76 #[.bool s1,.slice A1 n1 c1,.slice B1 m1 d1,.bool t1,.slice C1 i1 e1,.slice D1 j1 f1]) (hx1:RdR w s1 A1 n1 c1 B1 m1 d1 q.x) (hy1:RdR w t1 C1 i1 e1 D1 j1 f1 q.y) {g9 n9 c9:Nat}{l:List PtD}(hl9:RdPS w (some ⟨g9,0,none⟩) n9 c9 l) (hno:NoEq q l) :
    Calls Tryz.prog 98 #[.slice (some ⟨g9,0,none⟩) n9 c9,.func (.func 99) #[] #[.pointer (some ⟨gb,0,none⟩)]] w fun e w'=> e=.returned (.bool false)∧Bl w w':=by
  have hno:=Lib.hid hno;rename_i h_;clear h_
  go_enter Tryz.func98,Tryz.ntmps98
  go_wp2_with fail
  refine(IndexEq_no _ qb hx1 hy1 hl9 hno.out).mono ?_
  rintro e w1 ⟨rfl,hb⟩
  go_wp2_with fail
  go_ret
  exact⟨rfl,hb⟩
/-- The first elements of a slice of points. -/
theorem pts_take {w:World}{g n c:Nat}{l:List PtD}(h:RdPS w (some ⟨g,0,none⟩) n c l) {k:Nat}(hk:k≤n):RdPS w (some ⟨g,0,none⟩) k c (l.take k):=by
  refine⟨?_,Nat.le_trans hk h.cap,Nat.le_trans hk h.small,fun j hj=> ?_⟩
  · rw[List.length_take,h.len];omega
  · obtain⟨ad,e,hlt,hc⟩:=h.cells j (by omega)
    refine⟨ad,e,hlt,?_⟩
    have:pix (l.take k) j=pix l j:=by unfold pix;rw[List.getD_eq_getElem?_getD,List.getD_eq_getElem?_getD,List.getElem?_take_of_lt hj]
    rw[this]
    exact hc
set_option maxRecDepth 100000 in
set_option maxHeartbeats 16000000 in
theorem arePoints_yes (w:World) {g9 n9 c9:Nat}{l:List PtD}(hl9:RdPS w (some ⟨g9,0,none⟩) n9 c9 l) (hok:PtsOk l) (h3:3≤n9) (h40:n9≤40) :
    Calls Tryz.prog 55 #[.slice (some ⟨g9,0,none⟩) n9 c9] w fun e w'=> e=.returned (.bool true)∧Bl w w':=by
  have hl:=Lib.hid hl9.len
  have hcap:=hl9.cap
  have hok:=Lib.hid hok;rename_i h_;clear h_
  go_enter Tryz.func55,Tryz.ntmps55
  go_wp2_with fail
  go_loopw [7] (fun i wr=> ∃ k:Nat,k≤n9∧i=.int .i64 (k:Int)∧Bl w wr) (fun i _=> n9 - (intOf i).toNat)
  case atStart=> exact⟨0,Nat.zero_le _,rfl,Bl.refl _⟩
  case round =>
    obtain⟨k,hk,rfl,hbw⟩:=hrel
    obtain⟨wo,rfl⟩:∃ wo:World,wo=wr:=⟨_,rfl⟩
    by_cases hkn:k < n9
    · have hki:(k:Int) < (n9:Int):=by omega
      obtain⟨s1,A1,n1,c1,B1,m1,d1,t1,C1,i1,e1,D1,j1,f1,⟨y0,y1,y2,y3,y4,y5⟩,hx1,hy1⟩:=pts_lit (RdPS.bl hl9 hbw) hkn
      have hop:=Lib.hid (hok.out k (by rw[hl.out];exact hkn)).1
      have hne:NoEq (pix l k) (l.take k):=by
        intro j hj
        rw[List.length_take] at hj
        have:pix (l.take k) j=pix l j:=by unfold pix;rw[List.getD_eq_getElem?_getD,List.getD_eq_getElem?_getD,List.getElem?_take_of_lt (by omega)]
        rw[this]
        exact(hok.out k (by rw[hl.out];exact hkn)).2 j (by omega)
      have hne:=Lib.hid hne;rename_i h_;clear h_
      go_wp2_with fail
      refine calls_gen (fun W2=> Bl wo W2∧Blk W2 wo.heap.size 76 #[.bool s1,.slice A1 n1 c1,.slice B1 m1 d1,.bool t1,.slice C1 i1 e1,.slice D1 j1 f1]) ⟨slc,bts⟩ ?_
      rintro W2 ⟨hb2,qb⟩
      clear y0 y1 y2 y3 y4 y5
      refine(IsValidPoint_yes _ (hx1.bl hb2) (hy1.bl hb2) hop.out).mono ?_
      rintro e w3 ⟨rfl,hb3⟩
      have qb:=qb.bl hb3
      have hb4:=hb2.next hb3
      obtain⟨j0,j1,j2,j3,j4,j5⟩:=bx6 qb
      go_wp2_with fail
      refine(ContainsEq_no _ (by exact qb) (hx1.bl hb4) (hy1.bl hb4) (pts_take (RdPS.bl hl9 (hbw.next hb4)) (by omega)) hne.out).mono ?_
      rintro e w5 ⟨rfl,hb5⟩
      go_wp2_with fail
      go_roundw
      case rel=> exact⟨k+1,by omega,by go_num,(hbw.next hb4).next hb5⟩
      case measure=> simp[intOf];omega
    · obtain rfl:k=n9:=by omega
      have hkm2:¬ (k:Int) < (k:Int):=by omega
      go_wp2_with fail
      refine(within_yes _ (show (3:Int)≤(k:Int) by omega) (show (k:Int)≤40 by omega)).mono ?_
      rintro e w1 ⟨rfl,q1,rfl⟩
      go_wp2_with fail
      go_ret
      exact⟨rfl,by exact slc⟩
end

end Go.Proofs.YtjaapemopbbfaaaGreat
