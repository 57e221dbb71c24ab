/- Lemmas. -/
import Derived.Test.YtjaapemopbbfaaaGreatRows
import Derived.Test.YtjaapemopbbfaaaGreatPWorstShapeM18
import Derived.Test.YtjaapemopbbfaaaGreatPWorstShapeM12
import Derived.Test.YtjaapemopbbfaaaGreatPWorstShapeM13
import Derived.Deep.Cut
import Derived.Deep.DeepCutAuto
import Derived.Test.YtjaapemopbbfaaaGreatPWorstShapeM03
import Derived.Test.YtjaapemopbbfaaaGreatPWorstShapeM08
namespace Go.Proofs.YtjaapemopbbfaaaGreat
section
open Go.RowKit

theorem one_lit (w:World) (o:Obj) (T:TypeId):IsN ((w.alloc o).alloc (.cells #[.int .i64 1] T)) (some ⟨w.heap.size+1,0,none⟩) 1 1 1:=by
  have hd:dig 1=[1]:=by rw[dig_pos (by omega),show 1 / Bs=0 from by rw[Bs_eq],dig_zero];rfl
  have hB:Ow T ((w.alloc o).alloc (.cells #[.int .i64 1] T)) (w.alloc o).heap.size [1]:=heap_alloc_new _ _
  rw[World.size_alloc] at hB
  have:=hB.rd (c:=1) (by decide) (by decide)
  show RdI _ _ _ _ (ints (dig 1))
  rw[hd]
  exact this

theorem mk_sign {x:Int}{s:Bool}{D:Nat}(hs:s=decide (x < 0)) (hD:0 < D):(s && decide (0 < x.natAbs * D))=decide (x * (D:Int) < 0):=by
  refine signed_neg (x:=x * (D:Int)) (by rw[Int.natAbs_mul,Int.natAbs_natCast]) fun _=> ?_
  rw[hs]
  refine decide_eq_decide.2 ⟨fun h=> Int.mul_neg_of_neg_of_pos h (by omega),fun h=> ?_⟩
  rcases Int.lt_or_le x 0 with hx | hx
  · exact hx
  · have:=Int.mul_nonneg hx (show (0:Int)≤D by omega)
    omega
theorem lowS_self {x:Int}{s:Bool}{D:Nat}(hD:0 < D) (hs:s=decide (x < 0)):lowS s x.natAbs D=ofFrac x D:=by
  unfold lowS
  rw[if_neg (by omega)]
  congr 1
  unfold sx
  rw[hs]
  by_cases h:x < 0
  · simp[h];omega
  · simp[h];omega
set_option maxRecDepth 100000 in
set_option maxHeartbeats 8000000 in
theorem l04Add_ints (w:World) {s:Bool}{A:Option Addr}{n c:Nat}{B:Option Addr}{m d:Nat}{x:Int}{D:Nat}{s':Bool}{A':Option Addr}{n' c':Nat}{B':Option Addr}{m' d':Nat}{x':Int}{D':Nat}(h:IsR w s A n c B m d x D) (k:IsR w s' A' n' c' B' m' d' x' D') (hn:n≤24) (hn':n'≤24) (h1:D=1) (h1':D'=1) :
    Calls Tryz.prog 125 #[.agg #[.bool s,.slice A n c,.slice B m d],.agg #[.bool s',.slice A' n' c',.slice B' m' d']] w fun e w'=> ∃ s1 A1 n1 c1 B1 m1 d1,e=.returned (.agg #[.bool s1,.slice A1 n1 c1,.slice B1 m1 d1])∧OwR 3 w.heap.size w' s1 A1 n1 c1 B1 m1 d1 (ofFrac (x * D'+x' * D) (D * D'))∧Bl w w':=by
  subst h1 h1'
  have hval:Hid (ofFrac (x * ((1:Nat):Int)+x' * ((1:Nat):Int)) (1 * 1)=ofFrac (x+x') 1):=by unfold Hid;simp
  have hlz:=add_len (Nat.le_of_eq h.num.lenN) (Nat.le_of_eq k.num.lenN)
  go_enter Tryz.func125,Tryz.ntmps125
  go_wp2_with fail
  refine calls_gen (fun W=> Bl w W∧Blk W (w.heap.size) 31 #[.bool s,.slice A n c,.slice B m d]∧Blk W (w.heap.size+1) 31 #[.bool s',.slice A' n' c',.slice B' m' d']∧Wk 3 31 (w.heap.size+1+1) W) ⟨slc,bts,bts,bts⟩ ?_
  rintro W ⟨hbW,hx,hx',hr⟩
  refine(l04One_yes _ (RdI.bl h.dn hbW)).mono ?_
  rintro e w1 ⟨rfl,q1,rfl⟩
  have hb1:Bl W (W.drewN q1):=(Bl.refl W).drewN q1
  have hx:=hx.bl hb1
  have hx':=hx'.bl hb1
  have hr:=hr.bl hb1
  have hbW:=hbW.next hb1
  clear hb1
  obtain⟨i0,i1,i2⟩:=bx3 hx
  obtain⟨j0,j1,j2⟩:=bx3 hx'
  go_wp2_with fail
  refine(l04One_yes _ (RdI.bl k.dn hbW)).mono ?_
  rintro e w2 ⟨rfl,q2,rfl⟩
  have hb2:Bl (W.drewN q1) ((W.drewN q1).drewN q2):=(Bl.refl _).drewN q2
  have hx:=hx.bl hb2
  have hx':=hx'.bl hb2
  have hr:=hr.bl hb2
  have hbW:=hbW.next hb2
  clear hb2
  obtain⟨i0,i1,i2⟩:=bx3 hx
  obtain⟨j0,j1,j2⟩:=bx3 hx'
  generalize (W.drewN q1).drewN q2=W2 at *
  go_wp2_with fail
  refine(l03Add_any _ (h.b.bl hbW) (k.b.bl hbW) (by omega) (by omega)).mono ?_
  rintro e w3 ⟨s3,A3,n3,c3,rfl,hO3,hb3⟩
  have hx:=hx.bl hb3
  have hx':=hx'.bl hb3
  have hr:=hr.bl hb3
  have hbW:=hbW.next hb3
  clear hb3
  obtain⟨i0,i1,i2⟩:=bx3 hx
  obtain⟨j0,j1,j2⟩:=bx3 hx'
  have hl3:n3≤1048570:=by rw[← hO3.len];omega
  go_wp2_with fail
  refine calls_gen (fun W4=> Bl w W4∧Wk 3 31 (w.heap.size+1+1) W4∧IsB W4 s3 A3 n3 c3 (x+x')∧IsN W4 (some ⟨w3.heap.size+1,0,none⟩) 1 1 1) ⟨slc,bts,hO3.rd.bl slc,one_lit _ _ _⟩ ?_
  rintro W4 ⟨hbW,hr,hB3,hone⟩
  refine(l04Low_any _ s3 hB3.mg hone hl3 (by omega)).mono ?_
  rintro e w5 ⟨s1,A1,n1,c1,B1,m1,d1,rfl,hR,hb5⟩
  have hR:=hR.mono (show w.heap.size+1+1+1≤W4.heap.size from hr.lt)
  rw[lowS_self (by omega) hB3.1,← hval.out] at hR
  have hr:=hr.bl hb5
  have hbW:=hbW.next hb5
  obtain⟨v0,x0⟩:=hr.val_ (i:=0) (by omega)
  obtain⟨v1,x1⟩:=hr.val_ (i:=1) (by omega)
  obtain⟨v2,x2⟩:=hr.val_ (i:=2) (by omega)
  have hg:=hr.lt
  obtain⟨cs4,hB4,hc4⟩:=hr
  have hf0:=hB4.frozen 0
  have hf1:=hB4.frozen 1
  have hf2:=hB4.frozen 2
  go_wp2_with fail
  exact bodyPost_ret (v:=.agg #[.bool s1,.slice A1 n1 c1,.slice B1 m1 d1]) (by simp[results,Tryz.results125,go_sem,x0,x1,x2]) rfl ⟨_,_,_,_,_,_,_,rfl,(((hR.far (by simp) _).far (by simp) _).far (by simp) _).mono (by omega),slc⟩
end

section
open Go.RowKit

set_option maxRecDepth 100000 in
set_option maxHeartbeats 4000000 in
theorem l03Cmp_any (w:World) {s:Bool}{A:Option Addr}{n c:Nat}{x:Int}{t:Bool}{B:Option Addr}{m d:Nat}{y:Int}(h:IsB w s A n c x) (k:IsB w t B m d y) (hn:n≤2097152) (hm:m≤2097152) :
    Calls Tryz.prog 94 #[.agg #[.bool s,.slice A n c],.agg #[.bool t,.slice B m d]] w fun e w'=> e=.returned (.int .i64 (cmpZ x y))∧Bl w w':=by
  have hs:=h.1
  have ht:=k.1
  cases s <;> cases t
  · have hx:0≤x:=by have:=hs.symm;simp at this;omega
    have hy:0≤y:=by have:=ht.symm;simp at this;omega
    have hv:=Lib.hid (show cmpZ x y=cmpI (x.natAbs:Int) (y.natAbs:Int) by unfold cmpZ cmpI;split <;> (try split) <;> (try split) <;> (try split) <;> omega)
    clear hs ht hx hy
    go_enter Tryz.func94,Tryz.ntmps94
    go_wp2_with fail
    refine(l02Cmp_any _ (RdI.bl h.mg slc) (RdI.bl k.mg slc) hn hm).mono ?_
    rintro e w1 ⟨rfl,q1,rfl⟩
    go_wp2_with fail
    go_ret
    exact⟨ret_int hv.out.symm,slc⟩
  · have hx:0≤x:=by have:=hs.symm;simp at this;omega
    have hy:y < 0:=by have:=ht.symm;simpa using this
    have hv:=Lib.hid (show cmpZ x y=1 by unfold cmpZ;split <;> (try split) <;> (try split) <;> (try split) <;> omega)
    clear hs ht hx hy
    go_enter Tryz.func94,Tryz.ntmps94
    go_wp2_with fail
    go_ret
    exact⟨ret_int hv.out.symm,slc⟩
  · have hx:x < 0:=by have:=hs.symm;simpa using this
    have hy:0≤y:=by have:=ht.symm;simp at this;omega
    have hv:=Lib.hid (show cmpZ x y=-1 by unfold cmpZ;split <;> (try split) <;> (try split) <;> (try split) <;> omega)
    clear hs ht hx hy
    go_enter Tryz.func94,Tryz.ntmps94
    go_wp2_with fail
    go_ret
    exact⟨ret_int hv.out.symm,slc⟩
  · have hx:x < 0:=by have:=hs.symm;simpa using this
    have hy:y < 0:=by have:=ht.symm;simpa using this
    have hv:=Lib.hid (show cmpZ x y=cmpI (y.natAbs:Int) (x.natAbs:Int) by unfold cmpZ cmpI;split <;> (try split) <;> (try split) <;> (try split) <;> omega)
    clear hs ht hx hy
    go_enter Tryz.func94,Tryz.ntmps94
    go_wp2_with fail
    refine(l02Cmp_any _ (RdI.bl k.mg slc) (RdI.bl h.mg slc) hm hn).mono ?_
    rintro e w1 ⟨rfl,q1,rfl⟩
    go_wp2_with fail
    go_ret
    exact⟨ret_int hv.out.symm,slc⟩

set_option maxRecDepth 100000 in
set_option maxHeartbeats 8000000 in
theorem l04Cmp_any (w:World) {s:Bool}{A:Option Addr}{n c:Nat}{B:Option Addr}{m d:Nat}{x:Int}{D:Nat}{s':Bool}{A':Option Addr}{n' c':Nat}{B':Option Addr}{m' d':Nat}{x':Int}{D':Nat}(h:IsR w s A n c B m d x D) (k:IsR w s' A' n' c' B' m' d' x' D') (hn:n≤24) (hm:m≤24) (hn':n'≤24) (hm':m'≤24) (hD:0 < D) (hD':0 < D') :
    Calls Tryz.prog 51 #[.agg #[.bool s,.slice A n c,.slice B m d],.agg #[.bool s',.slice A' n' c',.slice B' m' d']] w fun e w'=> e=.returned (.int .i64 (cmpZ (x * (D':Int)) (x' * (D:Int))))∧Bl w w':=by
  have hm1:(dig (x.natAbs * D')).length≤59:=Nat.le_trans (dig_mul_len (Nat.le_of_eq h.num.lenN) (Nat.le_of_eq k.dn.lenN)) (by omega)
  have hm2:(dig (x'.natAbs * D)).length≤59:=Nat.le_trans (dig_mul_len (Nat.le_of_eq k.num.lenN) (Nat.le_of_eq h.dn.lenN)) (by omega)
  go_enter Tryz.func51,Tryz.ntmps51
  go_wp2_with fail
  refine wp_gen (fun W=> Bl w W∧Blk W (w.heap.size) 31 #[.bool s,.slice A n c,.slice B m d]∧Blk W (w.heap.size+1) 31 #[.bool s',.slice A' n' c',.slice B' m' d']) ⟨slc,bts,bts⟩ ?_
  rintro W ⟨hbW,hx,hx'⟩
  go_region_held3 (fun w' =>(w'.cell? ⟨w.heap.size,0,none⟩=some (.bool s)∧w'.cell? ⟨w.heap.size,1,none⟩=some (.slice A n c)∧w'.cell? ⟨w.heap.size,2,none⟩=some (.slice B m d))∧(w'.cell? ⟨w.heap.size+1,0,none⟩=some (.bool s')∧w'.cell? ⟨w.heap.size+1,1,none⟩=some (.slice A' n' c')∧w'.cell? ⟨w.heap.size+1,2,none⟩=some (.slice B' m' d'))) (first | exact⟨bx3 (T:=31) bts,bx3 (T:=31) bts⟩) (first |(go_at_call 88;with_reducible refine(l02Mul_any _ (h.num.bl slc) (k.dn.bl slc) (by omega) (by omega)).mono ?_;rintro e w4 ⟨A4,n4,c4,rfl,hO4,hb4⟩;(have hl4:n4≤59:=by rw[← hO4.rd.lenN];exact hm1);(have hN4:IsN w4 A4 n4 c4 (x.natAbs * D'):=hO4.rd)) |(go_at_call 95;(with_reducible refine(l03Make_any _ _ hN4 (by omega)).mono ?_);rintro e w5 ⟨s5,A5,n5,c5,rfl,hs5,hO5,hb5⟩;(have hB5:IsB w5 s5 A5 n5 c5 (x * (D':Int)):=⟨by rw[hs5.out];exact mk_sign h.sgn hD',by rw[Int.natAbs_mul,Int.natAbs_natCast];exact hO5.rd⟩)) |(go_at_call 88;with_reducible refine(l02Mul_any _ (k.num.bl slc) (h.dn.bl slc) (by omega) (by omega)).mono ?_;rintro e w6 ⟨A6,n6,c6,rfl,hO6,hb6⟩;(have hl6:n6≤59:=by rw[← hO6.rd.lenN];exact hm2);(have hN6:IsN w6 A6 n6 c6 (x'.natAbs * D):=hO6.rd)) |(go_at_call 95;(with_reducible refine(l03Make_any _ _ hN6 (by omega)).mono ?_);rintro e w7 ⟨s7,A7,n7,c7,rfl,hs7,hO7,hb7⟩;(have hB7:IsB w7 s7 A7 n7 c7 (x' * (D:Int)):=⟨by rw[hs7.out];exact mk_sign k.sgn hD,by rw[Int.natAbs_mul,Int.natAbs_natCast];exact hO7.rd⟩);(have hl5:n5≤2097152:=by rw[← hO5.rd.lenN];exact Nat.le_trans hm1 (by omega));(have hl7:n7≤2097152:=by rw[← hO7.rd.lenN];exact Nat.le_trans hm2 (by omega))) |(go_at_call 94;refine(l03Cmp_any _ (hB5.bl slc) hB7 hl5 hl7).mono ?_;rintro e w8 ⟨rfl,hb8⟩))
  go_wp2_with fail
  go_ret
  exact⟨rfl,slc⟩

set_option maxRecDepth 100000 in
set_option maxHeartbeats 4000000 in
theorem sRatMax_any (w:World) {s:Bool}{A:Option Addr}{n c:Nat}{B:Option Addr}{m d:Nat}{r:RatD}{s':Bool}{A':Option Addr}{n' c':Nat}{B':Option Addr}{m' d':Nat}{r':RatD}(h:RdR w s A n c B m d r) (k:RdR w s' A' n' c' B' m' d' r') :
    Calls Tryz.prog 45 #[.agg #[.bool s,.slice A n c,.slice B m d],.agg #[.bool s',.slice A' n' c',.slice B' m' d']] w fun e w'=> ∃ s1 A1 n1 c1 B1 m1 d1,e=.returned (.agg #[.bool s1,.slice A1 n1 c1,.slice B1 m1 d1])∧OwQ 3 w.heap.size w' s1 A1 n1 c1 B1 m1 d1 (maxR r r')∧Bl w w':=by
  by_cases ho:OkR r
  · have hok:=okR_of ho
    by_cases ho':OkR r'
    · have hok':=okR_of ho'
      have hI:=IsR.out h ho
      have hI':=IsR.out k ho'
      have hL:=OkR.lens h ho
      have hL':=OkR.lens k ho'
      have hval:=maxR_val ⟨ho,ho'⟩
      clear ho ho'
      generalize hcz:cmpZ (rn r * (rd r':Int)) (rn r' * (rd r:Int))=cz at *
      have hcz:=Lib.hid hcz;rename_i h_;clear h_
      by_cases hge:0≤cz
      · rw[if_pos hge] at hval
        have hval:=Lib.hid hval;rename_i h_;clear h_
        go_enter Tryz.func45,Tryz.ntmps45
        go_wp2_with fail
        refine calls_gen (fun W=> Bl w W∧Blk W (w.heap.size) 31 #[.bool s,.slice A n c,.slice B m d]∧Blk W (w.heap.size+1) 31 #[.bool s',.slice A' n' c',.slice B' m' d']∧Wk 3 31 (w.heap.size+1+1) W) ⟨slc,bts,bts,bts⟩ ?_
        rintro W ⟨hbW,hx,hx',hr⟩
        refine(sRatOk_any _ (h.bl hbW)).mono ?_
        rw[hok]
        rintro e w1 ⟨rfl,hb1⟩
        have hx:=hx.bl hb1
        have hx':=hx'.bl hb1
        have hr:=hr.bl hb1
        have hbW:=hbW.next hb1
        clear hb1
        obtain⟨i0,i1,i2⟩:=bx3 hx
        obtain⟨j0,j1,j2⟩:=bx3 hx'
        go_wp2_with fail
        refine(sRatOk_any _ (k.bl hbW)).mono ?_
        rw[hok']
        rintro e w2 ⟨rfl,hb2⟩
        have hx:=hx.bl hb2
        have hx':=hx'.bl hb2
        have hr:=hr.bl hb2
        have hbW:=hbW.next hb2
        clear hb2
        obtain⟨i0,i1,i2⟩:=bx3 hx
        obtain⟨j0,j1,j2⟩:=bx3 hx'
        go_wp2_with fail
        refine(l04Cmp_any _ (RdR.bl hI hbW) (RdR.bl hI' hbW) (by omega) (by omega) (by omega) (by omega) hL.2.2 hL'.2.2).mono ?_
        rw[hcz.out]
        rintro e w3 ⟨rfl,hb3⟩
        have hx:=hx.bl hb3
        have hx':=hx'.bl hb3
        have hr:=hr.bl hb3
        have hbW:=hbW.next hb3
        clear hb3
        obtain⟨i0,i1,i2⟩:=bx3 hx
        obtain⟨j0,j1,j2⟩:=bx3 hx'
        go_wp2_with fail
        refine(l04Copy_any _ (h.bl hbW) (by omega) (by omega)).mono ?_
        rintro e w4 ⟨s1,A1,n1,c1,B1,m1,d1,rfl,hR,hb4⟩
        have hR:=hR.mono (show w.heap.size+1+1+1≤w3.heap.size from hr.lt)
        rw[← hval.out] at hR
        have hx:=hx.bl hb4
        have hx':=hx'.bl hb4
        have hr:=hr.bl hb4
        have hbW:=hbW.next hb4
        clear hb4
        obtain⟨i0,i1,i2⟩:=bx3 hx
        obtain⟨j0,j1,j2⟩:=bx3 hx'
        obtain⟨v0,x0⟩:=hr.val_ (i:=0) (by omega)
        obtain⟨v1,x1⟩:=hr.val_ (i:=1) (by omega)
        obtain⟨v2,x2⟩:=hr.val_ (i:=2) (by omega)
        have hg:=hr.lt
        obtain⟨cs4,hB4,hc4⟩:=hr
        have hf0:=hB4.frozen 0
        have hf1:=hB4.frozen 1
        have hf2:=hB4.frozen 2
        go_wp2_with fail
        exact bodyPost_ret (v:=.agg #[.bool s1,.slice A1 n1 c1,.slice B1 m1 d1]) (by simp[results,Tryz.results45,go_sem,x0,x1,x2]) rfl ⟨_,_,_,_,_,_,_,rfl,(((hR.far (by simp) _).far (by simp) _).far (by simp) _).mono (by omega),slc⟩
      · rw[if_neg hge] at hval
        have hval:=Lib.hid hval;rename_i h_;clear h_
        have hge:cz < 0:=by omega
        go_enter Tryz.func45,Tryz.ntmps45
        go_wp2_with fail
        refine calls_gen (fun W=> Bl w W∧Blk W (w.heap.size) 31 #[.bool s,.slice A n c,.slice B m d]∧Blk W (w.heap.size+1) 31 #[.bool s',.slice A' n' c',.slice B' m' d']∧Wk 3 31 (w.heap.size+1+1) W) ⟨slc,bts,bts,bts⟩ ?_
        rintro W ⟨hbW,hx,hx',hr⟩
        refine(sRatOk_any _ (h.bl hbW)).mono ?_
        rw[hok]
        rintro e w1 ⟨rfl,hb1⟩
        have hx:=hx.bl hb1
        have hx':=hx'.bl hb1
        have hr:=hr.bl hb1
        have hbW:=hbW.next hb1
        clear hb1
        obtain⟨i0,i1,i2⟩:=bx3 hx
        obtain⟨j0,j1,j2⟩:=bx3 hx'
        go_wp2_with fail
        refine(sRatOk_any _ (k.bl hbW)).mono ?_
        rw[hok']
        rintro e w2 ⟨rfl,hb2⟩
        have hx:=hx.bl hb2
        have hx':=hx'.bl hb2
        have hr:=hr.bl hb2
        have hbW:=hbW.next hb2
        clear hb2
        obtain⟨i0,i1,i2⟩:=bx3 hx
        obtain⟨j0,j1,j2⟩:=bx3 hx'
        go_wp2_with fail
        refine(l04Cmp_any _ (RdR.bl hI hbW) (RdR.bl hI' hbW) (by omega) (by omega) (by omega) (by omega) hL.2.2 hL'.2.2).mono ?_
        rw[hcz.out]
        rintro e w3 ⟨rfl,hb3⟩
        have hx:=hx.bl hb3
        have hx':=hx'.bl hb3
        have hr:=hr.bl hb3
        have hbW:=hbW.next hb3
        clear hb3
        obtain⟨i0,i1,i2⟩:=bx3 hx
        obtain⟨j0,j1,j2⟩:=bx3 hx'
        go_wp2_with fail
        refine(l04Copy_any _ (k.bl hbW) (by omega) (by omega)).mono ?_
        rintro e w4 ⟨s1,A1,n1,c1,B1,m1,d1,rfl,hR,hb4⟩
        have hR:=hR.mono (show w.heap.size+1+1+1≤w3.heap.size from hr.lt)
        rw[← hval.out] at hR
        have hx:=hx.bl hb4
        have hx':=hx'.bl hb4
        have hr:=hr.bl hb4
        have hbW:=hbW.next hb4
        clear hb4
        obtain⟨i0,i1,i2⟩:=bx3 hx
        obtain⟨j0,j1,j2⟩:=bx3 hx'
        obtain⟨v0,x0⟩:=hr.val_ (i:=0) (by omega)
        obtain⟨v1,x1⟩:=hr.val_ (i:=1) (by omega)
        obtain⟨v2,x2⟩:=hr.val_ (i:=2) (by omega)
        have hg:=hr.lt
        obtain⟨cs4,hB4,hc4⟩:=hr
        have hf0:=hB4.frozen 0
        have hf1:=hB4.frozen 1
        have hf2:=hB4.frozen 2
        go_wp2_with fail
        exact bodyPost_ret (v:=.agg #[.bool s1,.slice A1 n1 c1,.slice B1 m1 d1]) (by simp[results,Tryz.results45,go_sem,x0,x1,x2]) rfl ⟨_,_,_,_,_,_,_,rfl,(((hR.far (by simp) _).far (by simp) _).far (by simp) _).mono (by omega),slc⟩
    · have hok':=okR_no ho'
      have hval:=Lib.hid (show maxR r r'=zR by unfold maxR;rw[if_neg (fun hk=> ho' hk.2)])
      have ho':=Lib.hid ho';rename_i h_;clear h_
      clear ho
      go_enter Tryz.func45,Tryz.ntmps45
      go_wp2_with fail
      refine calls_gen (fun W=> Bl w W∧Blk W (w.heap.size) 31 #[.bool s,.slice A n c,.slice B m d]∧Blk W (w.heap.size+1) 31 #[.bool s',.slice A' n' c',.slice B' m' d']∧Wk 3 31 (w.heap.size+1+1) W) ⟨slc,bts,bts,bts⟩ ?_
      rintro W ⟨hbW,hx,hx',hr⟩
      refine(sRatOk_any _ (h.bl hbW)).mono ?_
      rw[hok]
      rintro e w1 ⟨rfl,hb1⟩
      have hx:=hx.bl hb1
      have hx':=hx'.bl hb1
      have hr:=hr.bl hb1
      have hbW:=hbW.next hb1
      clear hb1
      obtain⟨i0,i1,i2⟩:=bx3 hx
      obtain⟨j0,j1,j2⟩:=bx3 hx'
      go_wp2_with fail
      refine(sRatOk_any _ (k.bl hbW)).mono ?_
      rw[hok']
      rintro e w2 ⟨rfl,hb2⟩
      have hx:=hx.bl hb2
      have hx':=hx'.bl hb2
      have hr:=hr.bl hb2
      have hbW:=hbW.next hb2
      clear hb2
      obtain⟨i0,i1,i2⟩:=bx3 hx
      obtain⟨j0,j1,j2⟩:=bx3 hx'
      obtain⟨v0,x0⟩:=hr.val_ (i:=0) (by omega)
      obtain⟨v1,x1⟩:=hr.val_ (i:=1) (by omega)
      obtain⟨v2,x2⟩:=hr.val_ (i:=2) (by omega)
      have hg:=hr.lt
      obtain⟨cs4,hB4,hc4⟩:=hr
      have hf0:=hB4.frozen 0
      have hf1:=hB4.frozen 1
      have hf2:=hB4.frozen 2
      go_wp2_with fail
      exact bodyPost_ret (v:=.agg #[.bool false,.slice none 0 0,.slice none 0 0]) (by simp[results,Tryz.results45,go_sem,x0,x1,x2]) rfl ⟨_,_,_,_,_,_,_,rfl,by rw[hval.out];exact OwQ.of (OwR.zero _ _ _),slc⟩
  · have hok:=okR_no ho
    have hval:=Lib.hid (show maxR r r'=zR by unfold maxR;rw[if_neg (fun hk=> ho hk.1)])
    have ho:=Lib.hid ho;rename_i h_;clear h_
    go_enter Tryz.func45,Tryz.ntmps45
    go_wp2_with fail
    refine calls_gen (fun W=> Bl w W∧Blk W (w.heap.size) 31 #[.bool s,.slice A n c,.slice B m d]∧Blk W (w.heap.size+1) 31 #[.bool s',.slice A' n' c',.slice B' m' d']∧Wk 3 31 (w.heap.size+1+1) W) ⟨slc,bts,bts,bts⟩ ?_
    rintro W ⟨hbW,hx,hx',hr⟩
    refine(sRatOk_any _ (h.bl hbW)).mono ?_
    rw[hok]
    rintro e w1 ⟨rfl,hb1⟩
    have hx:=hx.bl hb1
    have hx':=hx'.bl hb1
    have hr:=hr.bl hb1
    have hbW:=hbW.next hb1
    clear hb1
    obtain⟨i0,i1,i2⟩:=bx3 hx
    obtain⟨j0,j1,j2⟩:=bx3 hx'
    obtain⟨v0,x0⟩:=hr.val_ (i:=0) (by omega)
    obtain⟨v1,x1⟩:=hr.val_ (i:=1) (by omega)
    obtain⟨v2,x2⟩:=hr.val_ (i:=2) (by omega)
    have hg:=hr.lt
    obtain⟨cs4,hB4,hc4⟩:=hr
    have hf0:=hB4.frozen 0
    have hf1:=hB4.frozen 1
    have hf2:=hB4.frozen 2
    go_wp2_with fail
    exact bodyPost_ret (v:=.agg #[.bool false,.slice none 0 0,.slice none 0 0]) (by simp[results,Tryz.results45,go_sem,x0,x1,x2]) rfl ⟨_,_,_,_,_,_,_,rfl,by rw[hval.out];exact OwQ.of (OwR.zero _ _ _),slc⟩

theorem lowS_div {x x':Int}{D D':Nat}{s s':Bool}(hs:s=decide (x < 0)) (hs':s'=decide (x' < 0)) (hD:0 < D) (hD':0 < D') (hx:x'≠0) :
    lowS (s != s') (x.natAbs * D') (D * x'.natAbs)=ofFrac (x * D' * (if x' < 0 then -1 else 1)) (D * x'.natAbs):=by
  have h0:=Nat.mul_pos hD (show 0 < x'.natAbs by omega)
  unfold lowS
  rw[if_neg (by omega)]
  congr 1
  have e:x'.natAbs * (D':Nat)=x'.natAbs * D':=rfl
  have hy:sx (s != s') (x.natAbs * ((D':Int) * (if x' < 0 then -1 else 1)).natAbs)=x * ((D':Int) * (if x' < 0 then -1 else 1)):=by
    refine sx_mul hs ?_
    rw[hs',decide_eq_decide]
    split <;> omega
  have e2:((D':Int) * (if x' < 0 then -1 else 1)).natAbs=D':=by split <;> omega
  rw[e2] at hy
  rw[hy,Int.mul_assoc]

set_option maxRecDepth 100000 in
set_option maxHeartbeats 8000000 in
theorem sRatDiv_any (w:World) {s:Bool}{A:Option Addr}{n c:Nat}{B:Option Addr}{m d:Nat}{r:RatD}{s':Bool}{A':Option Addr}{n' c':Nat}{B':Option Addr}{m' d':Nat}{r':RatD}(h:RdR w s A n c B m d r) (k:RdR w s' A' n' c' B' m' d' r') :
    Calls Tryz.prog 46 #[.agg #[.bool s,.slice A n c,.slice B m d],.agg #[.bool s',.slice A' n' c',.slice B' m' d']] w fun e w'=> ∃ s1 A1 n1 c1 B1 m1 d1,e=.returned (.agg #[.bool s1,.slice A1 n1 c1,.slice B1 m1 d1])∧OwR 3 w.heap.size w' s1 A1 n1 c1 B1 m1 d1 (divR r r')∧Bl w w':=by
  by_cases ho:OkR r
  · have hok:=okR_of ho
    by_cases ho':OkR r'
    · have hok':=okR_of ho'
      have hI:=IsR.out h ho
      have hI':=IsR.out k ho'
      have hL:=OkR.lens h ho
      have hL':=OkR.lens k ho'
      have hl3:=Nat.le_trans (dig_mul_len (Nat.le_of_eq hI.num.lenN) (Nat.le_of_eq hI'.dn.lenN)) (show n+m'≤1048570 by omega)
      have hlD:=Nat.le_trans (dig_mul_len (Nat.le_of_eq hI.dn.lenN) (Nat.le_of_eq hI'.num.lenN)) (show m+n'≤1048570 by omega)
      have hval:=Lib.hid (show divR r r'=lowS (s != s') ((rn r).natAbs * rd r') (rd r * (rn r').natAbs) by
        unfold divR
        by_cases hx:rn r'=0
        · rw[if_neg (fun hk=> hk.2.2 hx),hx]
          unfold lowS
          rw[if_pos (by simp)]
        · rw[if_pos ⟨ho,ho',hx⟩,lowS_div hI.sgn hI'.sgn hL.2.2 hL'.2.2 hx])
      clear ho ho'
      go_enter Tryz.func46,Tryz.ntmps46
      go_wp2_with fail
      refine calls_gen (fun W=> Bl w W∧Blk W (w.heap.size) 31 #[.bool s,.slice A n c,.slice B m d]∧Blk W (w.heap.size+1) 31 #[.bool s',.slice A' n' c',.slice B' m' d']∧Wk 3 31 (w.heap.size+1+1) W) ⟨slc,bts,bts,bts⟩ ?_
      rintro W ⟨hbW,hx,hx',hr⟩
      refine(sRatOk_any _ (h.bl hbW)).mono ?_
      rw[hok]
      rintro e w1 ⟨rfl,hb1⟩
      have hx:=hx.bl hb1
      have hx':=hx'.bl hb1
      have hr:=hr.bl hb1
      have hbW:=hbW.next hb1
      clear hb1
      obtain⟨i0,i1,i2⟩:=bx3 hx
      obtain⟨j0,j1,j2⟩:=bx3 hx'
      go_wp2_with fail
      refine(sRatOk_any _ (k.bl hbW)).mono ?_
      rw[hok']
      rintro e w2 ⟨rfl,hb2⟩
      have hx:=hx.bl hb2
      have hx':=hx'.bl hb2
      have hr:=hr.bl hb2
      have hbW:=hbW.next hb2
      clear hb2
      obtain⟨i0,i1,i2⟩:=bx3 hx
      obtain⟨j0,j1,j2⟩:=bx3 hx'
      go_wp2_with fail
      refine wp_gen (fun W=> Bl w W∧Blk W (w.heap.size) 31 #[.bool s,.slice A n c,.slice B m d]∧Blk W (w.heap.size+1) 31 #[.bool s',.slice A' n' c',.slice B' m' d']∧Wk 3 31 (w.heap.size+1+1) W) ⟨hbW,hx,hx',hr⟩ ?_
      clear hbW hx hx' hr
      rintro W5 ⟨hbW,hx,hx',hr⟩
      go_region_held3 (fun w' =>(w'.cell? ⟨w.heap.size,0,none⟩=some (.bool s)∧w'.cell? ⟨w.heap.size,1,none⟩=some (.slice A n c)∧w'.cell? ⟨w.heap.size,2,none⟩=some (.slice B m d))∧(w'.cell? ⟨w.heap.size+1,0,none⟩=some (.bool s')∧w'.cell? ⟨w.heap.size+1,1,none⟩=some (.slice A' n' c')∧w'.cell? ⟨w.heap.size+1,2,none⟩=some (.slice B' m' d'))∧(w'.cell? ⟨w.heap.size+1+1,0,none⟩=some (cellD w' (w.heap.size+1+1) 0)∧w'.cell? ⟨w.heap.size+1+1,1,none⟩=some (cellD w' (w.heap.size+1+1) 1)∧w'.cell? ⟨w.heap.size+1+1,2,none⟩=some (cellD w' (w.heap.size+1+1) 2))∧w'.frozen? ⟨w.heap.size+1+1,0,none⟩=false∧w'.frozen? ⟨w.heap.size+1+1,1,none⟩=false∧w'.frozen? ⟨w.heap.size+1+1,2,none⟩=false) (first | exact⟨bx3 (T:=31) bts,bx3 (T:=31) bts,Wk.out3 (T:=31) bts⟩) (first |(go_at_call 88;with_reducible refine(l02Mul_any _ (hI.num.bl slc) (hI'.dn.bl slc) (by omega) (by omega)).mono ?_;rintro e w4 ⟨A4,n4,c4,rfl,hO,hb4⟩) |(go_at_call 88;with_reducible refine(l02Mul_any _ (hI.dn.bl slc) (hI'.num.bl slc) (by omega) (by omega)).mono ?_;rintro e w5 ⟨A5,n5,c5,rfl,hO5,hb5⟩;(have hl4:n4≤1048570:=by rw[← hO.rd.lenN];exact hl3);(have hl5:n5≤1048570:=by rw[← hO5.rd.lenN];exact hlD);(have hO6:=RdI.bl hO.rd hb5)) |(go_at_call 87;refine(l04Low_any _ (s != s') hO6 hO5.rd hl4 hl5).mono ?_;rintro e w8 ⟨s1,A1,n1,c1,B1,m1,d1,rfl,hR,hb8⟩))
      have hz3:w.heap.size+1+1+1≤W5.heap.size:=hr.lt
      have hz4:W5.heap.size≤w4.heap.size:=(Bl.size hb4:W5.drew.heap.size≤_)
      have hz5:w4.heap.size≤w5.heap.size:=Bl.size hb5
      have hr:=(show Wk 3 31 (w.heap.size+1+1) w8 from bts)
      have hbW:Bl w w8:=slc
      rw[← hval.out] at hR
      have hR:=hR.mono (show w.heap.size+1+1+1≤w5.heap.size by omega)
      obtain⟨v0,x0⟩:=hr.val_ (i:=0) (by omega)
      obtain⟨v1,x1⟩:=hr.val_ (i:=1) (by omega)
      obtain⟨v2,x2⟩:=hr.val_ (i:=2) (by omega)
      have hg:=hr.lt
      obtain⟨cs4,hB4,hc4⟩:=hr
      have hf0:=hB4.frozen 0
      have hf1:=hB4.frozen 1
      have hf2:=hB4.frozen 2
      go_wp2_with fail
      exact bodyPost_ret (v:=.agg #[.bool s1,.slice A1 n1 c1,.slice B1 m1 d1]) (by simp[results,Tryz.results46,go_sem,x0,x1,x2]) rfl ⟨_,_,_,_,_,_,_,rfl,(((hR.far (by simp) _).far (by simp) _).far (by simp) _).mono (by omega),slc⟩
    · have hok':=okR_no ho'
      have hval:=Lib.hid (show divR r r'=zR by unfold divR;rw[if_neg (fun hk=> ho' hk.2.1)])
      have ho':=Lib.hid ho';rename_i h_;clear h_
      clear ho
      go_enter Tryz.func46,Tryz.ntmps46
      go_wp2_with fail
      refine calls_gen (fun W=> Bl w W∧Blk W (w.heap.size) 31 #[.bool s,.slice A n c,.slice B m d]∧Blk W (w.heap.size+1) 31 #[.bool s',.slice A' n' c',.slice B' m' d']∧Wk 3 31 (w.heap.size+1+1) W) ⟨slc,bts,bts,bts⟩ ?_
      rintro W ⟨hbW,hx,hx',hr⟩
      refine(sRatOk_any _ (h.bl hbW)).mono ?_
      rw[hok]
      rintro e w1 ⟨rfl,hb1⟩
      have hx:=hx.bl hb1
      have hx':=hx'.bl hb1
      have hr:=hr.bl hb1
      have hbW:=hbW.next hb1
      clear hb1
      obtain⟨i0,i1,i2⟩:=bx3 hx
      obtain⟨j0,j1,j2⟩:=bx3 hx'
      go_wp2_with fail
      refine(sRatOk_any _ (k.bl hbW)).mono ?_
      rw[hok']
      rintro e w2 ⟨rfl,hb2⟩
      have hx:=hx.bl hb2
      have hx':=hx'.bl hb2
      have hr:=hr.bl hb2
      have hbW:=hbW.next hb2
      clear hb2
      obtain⟨i0,i1,i2⟩:=bx3 hx
      obtain⟨j0,j1,j2⟩:=bx3 hx'
      obtain⟨v0,x0⟩:=hr.val_ (i:=0) (by omega)
      obtain⟨v1,x1⟩:=hr.val_ (i:=1) (by omega)
      obtain⟨v2,x2⟩:=hr.val_ (i:=2) (by omega)
      have hg:=hr.lt
      obtain⟨cs4,hB4,hc4⟩:=hr
      have hf0:=hB4.frozen 0
      have hf1:=hB4.frozen 1
      have hf2:=hB4.frozen 2
      go_wp2_with fail
      exact bodyPost_ret (v:=.agg #[.bool false,.slice none 0 0,.slice none 0 0]) (by simp[results,Tryz.results46,go_sem,x0,x1,x2]) rfl ⟨_,_,_,_,_,_,_,rfl,by rw[hval.out];exact OwR.zero _ _ _,slc⟩
  · have hok:=okR_no ho
    have hval:=Lib.hid (show divR r r'=zR by unfold divR;rw[if_neg (fun hk=> ho hk.1)])
    have ho:=Lib.hid ho;rename_i h_;clear h_
    go_enter Tryz.func46,Tryz.ntmps46
    go_wp2_with fail
    refine calls_gen (fun W=> Bl w W∧Blk W (w.heap.size) 31 #[.bool s,.slice A n c,.slice B m d]∧Blk W (w.heap.size+1) 31 #[.bool s',.slice A' n' c',.slice B' m' d']∧Wk 3 31 (w.heap.size+1+1) W) ⟨slc,bts,bts,bts⟩ ?_
    rintro W ⟨hbW,hx,hx',hr⟩
    refine(sRatOk_any _ (h.bl hbW)).mono ?_
    rw[hok]
    rintro e w1 ⟨rfl,hb1⟩
    have hx:=hx.bl hb1
    have hx':=hx'.bl hb1
    have hr:=hr.bl hb1
    have hbW:=hbW.next hb1
    clear hb1
    obtain⟨i0,i1,i2⟩:=bx3 hx
    obtain⟨j0,j1,j2⟩:=bx3 hx'
    obtain⟨v0,x0⟩:=hr.val_ (i:=0) (by omega)
    obtain⟨v1,x1⟩:=hr.val_ (i:=1) (by omega)
    obtain⟨v2,x2⟩:=hr.val_ (i:=2) (by omega)
    have hg:=hr.lt
    obtain⟨cs4,hB4,hc4⟩:=hr
    have hf0:=hB4.frozen 0
    have hf1:=hB4.frozen 1
    have hf2:=hB4.frozen 2
    go_wp2_with fail
    exact bodyPost_ret (v:=.agg #[.bool false,.slice none 0 0,.slice none 0 0]) (by simp[results,Tryz.results46,go_sem,x0,x1,x2]) rfl ⟨_,_,_,_,_,_,_,rfl,by rw[hval.out];exact OwR.zero _ _ _,slc⟩
end

section
open Go.RowKit

set_option maxRecDepth 100000 in
set_option maxHeartbeats 4000000 in
theorem sRatCmp_yes (w:World) {s:Bool}{A:Option Addr}{n c:Nat}{B:Option Addr}{m d:Nat}{r:RatD}{s':Bool}{A':Option Addr}{n' c':Nat}{B':Option Addr}{m' d':Nat}{r':RatD}(h:RdR w s A n c B m d r) (k:RdR w s' A' n' c' B' m' d' r') (ho:OkR r∧OkR r') :
    Calls Tryz.prog 81 #[.agg #[.bool s,.slice A n c,.slice B m d],.agg #[.bool s',.slice A' n' c',.slice B' m' d']] w fun e w'=> e=.returned (.int .i64 (cmpR r r'))∧Bl w w':=by
  have hL:=OkR.lens h ho.1
  have hL':=OkR.lens k ho.2
  have hval:=Lib.hid (cmpR_val ho)
  have h1:=Lib.hid (okR_true.2 ho.1)
  have h2:=Lib.hid (okR_true.2 ho.2)
  clear ho
  generalize hcz:cmpZ (rn r * (rd r':Int)) (rn r' * (rd r:Int))=cz at *
  have hcz:=Lib.hid hcz;rename_i h_;clear h_
  go_enter Tryz.func81,Tryz.ntmps81
  go_upto_region 1 with (fail)
  refine wp_gen (fun W=> Bl w W∧∃ g2 g3,Blk W g2 31 #[.bool s,.slice A n c,.slice B m d]∧Blk W g3 31 #[.bool s',.slice A' n' c',.slice B' m' d']∧g2=w.heap.size∧g3=w.heap.size+1) ⟨slc,_,_,by exact bts,by exact bts,rfl,rfl⟩ ?_
  rintro W ⟨hbW,g2,g3,hx,hx',hg2,hg3⟩
  rw[← hg3,← hg2]
  clear hg2 hg3
  obtain⟨i0,i1,i2⟩:=bx3 hx
  go_wp2_with fail
  refine(sRatOk_any _ (h.bl hbW)).mono ?_
  rw[h1.out]
  rintro e w1 ⟨rfl,hb1⟩
  have hx:=hx.bl hb1
  have hx':=hx'.bl hb1
  have hbW:=hbW.next hb1
  clear hb1 i0 i1 i2
  obtain⟨j0,j1,j2⟩:=bx3 hx'
  go_wp2_with fail
  refine(sRatOk_any _ (k.bl hbW)).mono ?_
  rw[h2.out]
  rintro e w2 ⟨rfl,hb2⟩
  have hx:=hx.bl hb2
  have hx':=hx'.bl hb2
  have hbW:=hbW.next hb2
  clear hb2 j0 j1 j2
  obtain⟨i0,i1,i2⟩:=bx3 hx
  obtain⟨j0,j1,j2⟩:=bx3 hx'
  go_wp2_with fail
  refine(l04Cmp_any _ (IsR.out (h.bl hbW) (okR_true.1 h1.out)) (IsR.out (k.bl hbW) (okR_true.1 h2.out)) (by omega) (by omega) (by omega) (by omega) hL.2.2 hL'.2.2).mono ?_
  rw[hcz.out]
  rintro e w3 ⟨rfl,hb3⟩
  go_wp2_with fail
  go_ret
  exact⟨by rw[hval.out];rfl,hbW.next hb3⟩
end

section
open Go.RowKit

/-- The fraction that stands for a rational number. -/
def toR (q:Rat):RatD:=raw q.num q.den
/-- It is not too large. -/
def Fit (q:Rat):Prop:=q.num.natAbs < Bs ^ 24∧q.den < Bs ^ 24
theorem Fit.ok {q:Rat}(h:Fit q):OkR (toR q):=⟨q.num,q.den,rfl,q.den_pos,q.reduced,dig_len_le.2 h.1,dig_len_le.2 h.2⟩
theorem rn_toR (q:Rat):rn (toR q)=q.num:=rn_raw _ _
theorem rd_toR (q:Rat):rd (toR q)=q.den:=rd_raw _ _
/-- The number of a fraction. -/
def vR (r:RatD):Rat:=mkRat (rn r) (rd r)
theorem OkR.toR {r:RatD}(h:OkR r):r=toR (vR r)∧Fit (vR r):=by
  obtain⟨h1,h2,h3,h4,h5⟩:=h.get
  have e:vR r=⟨rn r,rd r,by omega,h3⟩:=(Rat.mk_eq_mkRat (rn r) (rd r) (by omega) h3).symm
  rw[e]
  exact⟨h1,dig_len_le.1 h4,dig_len_le.1 h5⟩
theorem toR_inj {p q:Rat}(h:toR p=toR q):p=q:=by
  refine Rat.ext ?_ ?_
  · rw[← rn_toR,h,rn_toR]
  · rw[← rd_toR,h,rd_toR]
open Classical in
theorem ofFrac_toR (x:Int) {D:Nat}(hD:0 < D):ofFrac x D=if Fit (mkRat x D) then toR (mkRat x D) else zR:=by
  have h1:(mkRat x D).num=x / (Nat.gcd x.natAbs D:Int):=by
    rw[Rat.num_mkRat,if_neg (by omega),Nat.gcd_comm]
  have h2:(mkRat x D).den=D / Nat.gcd x.natAbs D:=by
    rw[Rat.den_mkRat,if_neg (by omega),Nat.gcd_comm]
  have h3:(mkRat x D).num.natAbs=x.natAbs / Nat.gcd x.natAbs D:=by
    rw[h1,natAbs_ediv_gcd _ _ (Nat.gcd_dvd_left _ _)]
  unfold ofFrac Fit toR
  rw[h3,h2,h1]
  by_cases h:x.natAbs / Nat.gcd x.natAbs D < Bs ^ 24∧D / Nat.gcd x.natAbs D < Bs ^ 24
  · rw[if_pos h,if_pos ⟨dig_len_le.2 h.1,dig_len_le.2 h.2⟩]
  · rw[if_neg h,if_neg (fun hk=> h ⟨dig_len_le.1 hk.1,dig_len_le.1 hk.2⟩)]
theorem cmpR_toR {p q:Rat}(hp:Fit p) (hq:Fit q):cmpR (toR p) (toR q)=if p < q then -1 else if q < p then 1 else 0:=by
  unfold cmpR cmpZ
  rw[if_pos ⟨hp.ok,hq.ok⟩,rn_toR,rn_toR,rd_toR,rd_toR]
  simp only[Rat.lt_iff]
theorem sgnR_toR {p:Rat}(hp:Fit p):sgnR (toR p)=if p < 0 then -1 else if 0 < p then 1 else 0:=by
  unfold sgnR cmpZ
  rw[if_pos hp.ok,rn_toR]
  simp[Rat.lt_iff]
theorem maxR_toR {p q:Rat}(hp:Fit p) (hq:Fit q):maxR (toR p) (toR q)=toR (if p < q then q else p):=by
  unfold maxR
  rw[if_pos ⟨hp.ok,hq.ok⟩,cmpR_toR hp hq]
  by_cases h:p < q
  · simp[h]
  · by_cases h':q < p <;> simp[h,h']
/-- Numerator and denominator are at most N. -/
def Bd (N:Nat) (q:Rat):Prop:=q.num.natAbs≤N∧q.den≤N
theorem Bd.fit {N:Nat}{q:Rat}(h:Bd N q) (hN:N < Bs ^ 24):Fit q:=⟨Nat.lt_of_le_of_lt h.1 hN,Nat.lt_of_le_of_lt h.2 hN⟩
theorem Bd.mono {M N:Nat}{q:Rat}(h:Bd M q) (hN:M≤N):Bd N q:=⟨Nat.le_trans h.1 hN,Nat.le_trans h.2 hN⟩
theorem bd_mk {x:Int}{D N:Nat}(hD:0 < D) (hx:x.natAbs≤N) (hn:D≤N):Bd N (mkRat x D):=by
  refine⟨?_,?_⟩
  · rw[Rat.num_mkRat,if_neg (by omega),Nat.gcd_comm,natAbs_ediv_gcd _ _ (Nat.gcd_dvd_left _ _)]
    exact Nat.le_trans (Nat.div_le_self _ _) hx
  · rw[Rat.den_mkRat,if_neg (by omega)]
    exact Nat.le_trans (Nat.div_le_self _ _) hn
section
variable {M N:Nat}{p q:Rat}
theorem natAbs_mul_le {a b:Int}(ha:a.natAbs≤M) (hb:b.natAbs≤N):(a * b).natAbs≤M * N:=by
  rw[Int.natAbs_mul];exact Nat.mul_le_mul ha hb
theorem Bd.add (h:Bd M p) (k:Bd N q):Bd (2 * (M * N)) (p+q):=by
  rw[Rat.add_def']
  refine bd_mk (Nat.mul_pos p.den_pos q.den_pos) ?_ (Nat.le_trans (Nat.mul_le_mul h.2 k.2) (by omega))
  have h1:(p.num * (q.den:Int)).natAbs≤M * N:=natAbs_mul_le h.1 k.2
  have h2:(q.num * (p.den:Int)).natAbs≤N * M:=natAbs_mul_le k.1 h.2
  rw[Nat.mul_comm N M] at h2
  omega
theorem Bd.sub (h:Bd M p) (k:Bd N q):Bd (2 * (M * N)) (p - q):=by
  rw[Rat.sub_def']
  refine bd_mk (Nat.mul_pos p.den_pos q.den_pos) ?_ (Nat.le_trans (Nat.mul_le_mul h.2 k.2) (by omega))
  have h1:(p.num * (q.den:Int)).natAbs≤M * N:=natAbs_mul_le h.1 k.2
  have h2:(q.num * (p.den:Int)).natAbs≤N * M:=natAbs_mul_le k.1 h.2
  rw[Nat.mul_comm N M] at h2
  omega
theorem Bd.mul (h:Bd M p) (k:Bd N q):Bd (M * N) (p * q):=by
  rw[Rat.mul_def']
  exact bd_mk (Nat.mul_pos p.den_pos q.den_pos) (natAbs_mul_le h.1 k.1) (Nat.mul_le_mul h.2 k.2)
end
end

section
open Go.RowKit

instance:Inhabited (Rat × Rat):=⟨(0,0)⟩
def tp (p:Rat × Rat):PtD:=⟨toR p.1,toR p.2⟩
theorem pix_map {l:List (Rat × Rat)}{k:Nat}(h:k < l.length):pix (l.map tp) k=tp (pix l k):=by simp[pix,h]
/-- A fraction of one limb. -/
def SmQ (q:Rat):Prop:=q.num.natAbs < 1000000000∧q.den < 1000000000
instance (q:Rat):Decidable (SmQ q):=by unfold SmQ;infer_instance
theorem SmQ.mag {q:Rat}(h:SmQ q):(toR q).mag.length≤1:=by
  show (ints (dig q.num.natAbs)).length≤1
  rw[ints_len]
  exact dig_len_le.2 (by simpa [Bs] using h.1)
theorem SmQ.den {q:Rat}(h:SmQ q):(toR q).den.length=1:=by
  show (ints (dig q.den)).length=1
  rw[ints_len]
  have h1:(dig q.den).length≤1:=dig_len_le.2 (by simpa [Bs] using h.2)
  have h2:0 < (dig q.den).length:=dig_len_pos.2 q.den_pos
  omega
theorem SmQ.fit {q:Rat}(h:SmQ q):Fit q:=⟨Nat.lt_trans h.1 (by decide),Nat.lt_trans h.2 (by decide)⟩
/-- The sign of a turn. -/
def trn (xs ys:List Int) (a b c:Int):Int :=
  cmpZ ((ix xs b.toNat - ix xs a.toNat) * (ix ys c.toNat - ix ys a.toNat) - (ix ys b.toNat - ix ys a.toNat) * (ix xs c.toNat - ix xs a.toNat)) 0
def PlB (n:Nat) (xs ys:List Int):Prop:=∀ k,k < n→-536870912≤ix xs k∧ix xs k≤536870912∧-536870912≤ix ys k∧ix ys k≤536870912
theorem mul_bd {a b:Int}(h1 : -1073741824≤a) (h2:a≤1073741824) (h3 : -1073741824≤b) (h4:b≤1073741824) : -1152921504606846976≤a * b∧a * b≤1152921504606846976:=by
  have h:(a * b).natAbs≤1073741824 * 1073741824:=by
    rw[Int.natAbs_mul]
    exact Nat.mul_le_mul (by omega) (by omega)
  omega
theorem rdi_lit {w:World}{g n c:Nat}{l:List Int}(h:RdI w (some ⟨g,0,none⟩) n c l) {k:Nat}(hk:k < n):w.cell? ⟨g,k,none⟩=some (.int .i64 (ix l k)):=by
  obtain⟨_,e,_,hc⟩:=h.cells k hk
  cases e
  rw[Addr.add_lit,Nat.zero_add] at hc
  exact hc
theorem bx5 {W:World}{g:Nat}{T:TypeId}{a b c d e:Value}(h:Blk W g T #[a,b,c,d,e]):W.cell? ⟨g,0,none⟩=some a∧W.cell? ⟨g,1,none⟩=some b∧W.cell? ⟨g,2,none⟩=some c∧W.cell? ⟨g,3,none⟩=some d∧W.cell? ⟨g,4,none⟩=some e:=⟨h.cell 0,h.cell 1,h.cell 2,h.cell 3,h.cell 4⟩
/-- The corners of a triangle. -/
def cor (t:TriD):Nat→Int
  | 0=> t.a
  | 1=> t.b
  | _=> t.c
end

end Go.Proofs.YtjaapemopbbfaaaGreat
