/- Lemmas. -/
import Derived.Test.YtjaapemopbbfaaaGreatRows
import Derived.Test.YtjaapemopbbfaaaGreatPWorstShapeM17
import Derived.Test.YtjaapemopbbfaaaGreatPWorstShapeM11
namespace Go.Proofs.YtjaapemopbbfaaaGreat
section
open Go.RowKit

section
variable (w:World) {s:Bool}{A:Option Addr}{n c:Nat}{B:Option Addr}{m d:Nat}{r:RatD}
set_option maxHeartbeats 4000000 in
theorem sRatOk_bad (h:RdR w s A n c B m d r) (ho:¬ OkR r) (ho':¬ (OkB s r.mag∧OkN r.den∧0 < m∧n≤24∧m≤24)) :
    Calls Tryz.prog 50 #[.agg #[.bool s,.slice A n c,.slice B m d]] w fun e w'=> e=.returned (.bool (okR r))∧Bl w w':=by
  rw[okR_no ho]
  clear ho
  by_cases h1:OkB s r.mag
  · have hB1:=okB_yes h1
    by_cases h2:OkN r.den
    · have hN1:=okN_of h2
      by_cases h3:0 < m
      · have h3i:((m:Int) == 0)=false:=by simp;omega
        by_cases h5:m≤24
        · have h5i:decide ((24:Int) < (m:Int))=false:=by simp;omega
          have h4:¬ n≤24:=fun h4=> ho' ⟨h1,h2,h3,h4,h5⟩
          have h4i:decide ((24:Int) < (n:Int))=true:=by simp;omega
          clear ho' h1 h2 h3 h4 h5
          go_enter Tryz.func50,Tryz.ntmps50
          go_wp2_with fail
          refine(sBigIntOk_any _ (h.mag.alloc _)).mono ?_
          rw[hB1]
          rintro e w1 ⟨rfl,hb1⟩
          obtain⟨k0,k1,k2⟩:=box3 hb1
          have hb1:Bl w w1:=slc
          go_wp2_with fail
          refine(sNatOk_any _ (h.den.bl hb1)).mono ?_
          rw[hN1]
          rintro e w2 ⟨rfl,q2,rfl⟩
          go_wp2_with fail
          go_ret
          exact⟨rfl,slc⟩

        · have h5i:decide ((24:Int) < (m:Int))=true:=by simp;omega
          clear ho' h1 h2 h3 h5
          go_enter Tryz.func50,Tryz.ntmps50
          go_wp2_with fail
          refine(sBigIntOk_any _ (h.mag.alloc _)).mono ?_
          rw[hB1]
          rintro e w1 ⟨rfl,hb1⟩
          obtain⟨k0,k1,k2⟩:=box3 hb1
          have hb1:Bl w w1:=slc
          go_wp2_with fail
          refine(sNatOk_any _ (h.den.bl hb1)).mono ?_
          rw[hN1]
          rintro e w2 ⟨rfl,q2,rfl⟩
          go_wp2_with fail
          go_ret
          exact⟨rfl,slc⟩

      · obtain rfl:m=0:=by omega
        clear ho' h1 h2 h3
        go_enter Tryz.func50,Tryz.ntmps50
        go_wp2_with fail
        refine(sBigIntOk_any _ (h.mag.alloc _)).mono ?_
        rw[hB1]
        rintro e w1 ⟨rfl,hb1⟩
        obtain⟨k0,k1,k2⟩:=box3 hb1
        have hb1:Bl w w1:=slc
        go_wp2_with fail
        refine(sNatOk_any _ (h.den.bl hb1)).mono ?_
        rw[hN1]
        rintro e w2 ⟨rfl,q2,rfl⟩
        go_wp2_with fail
        go_ret
        exact⟨rfl,slc⟩

    · have hN0:=okN_no h2
      clear ho' h1 h2
      go_enter Tryz.func50,Tryz.ntmps50
      go_wp2_with fail
      refine(sBigIntOk_any _ (h.mag.alloc _)).mono ?_
      rw[hB1]
      rintro e w1 ⟨rfl,hb1⟩
      obtain⟨k0,k1,k2⟩:=box3 hb1
      have hb1:Bl w w1:=slc
      go_wp2_with fail
      refine(sNatOk_any _ (h.den.bl hb1)).mono ?_
      rw[hN0]
      rintro e w2 ⟨rfl,q2,rfl⟩
      go_wp2_with fail
      go_ret
      exact⟨rfl,slc⟩

  · have hB0:=okB_no h1
    clear ho' h1
    go_enter Tryz.func50,Tryz.ntmps50
    go_wp2_with fail
    refine(sBigIntOk_any _ (h.mag.alloc _)).mono ?_
    rw[hB0]
    rintro e w1 ⟨rfl,hb1⟩
    obtain⟨k0,k1,k2⟩:=box3 hb1
    have hb1:Bl w w1:=slc
    go_wp2_with fail
    go_ret
    exact⟨rfl,slc⟩

set_option maxHeartbeats 4000000 in
theorem sRatOk_fine {x:Int}{D:Nat}(h:IsR w s A n c B m d x D) (hB1:okB s (raw x D).mag=true) (hN1:okN (raw x D).den=true) (h3:0 < m) (h4:n≤24) (h5:m≤24) :
    Calls Tryz.prog 50 #[.agg #[.bool s,.slice A n c,.slice B m d]] w fun e w'=> e=.returned (.bool (decide (Nat.gcd x.natAbs D=1)))∧Bl w w':=by
  have h3i:((m:Int) == 0)=false:=by simp;omega
  have h4i:decide ((24:Int) < (n:Int))=false:=by simp;omega
  have h5i:decide ((24:Int) < (m:Int))=false:=by simp;omega
  go_enter Tryz.func50,Tryz.ntmps50
  go_wp2_with fail
  refine(sBigIntOk_any _ (h.mag.alloc _)).mono ?_
  rw[hB1]
  rintro e w1 ⟨rfl,hb1⟩
  obtain⟨k0,k1,k2⟩:=box3 hb1
  have hb1:Bl w w1:=slc
  go_wp2_with fail
  refine(sNatOk_any _ (h.den.bl hb1)).mono ?_
  rw[hN1]
  rintro e w2 ⟨rfl,q2,rfl⟩
  have hb3:Bl w (w1.drewN q2):=slc
  go_wp2_with fail
  refine(l02Gcd_any _ (h.num.bl hb3) (h.dn.bl hb3) (by omega) (by omega)).mono ?_
  rintro e w4 ⟨A',n',c',rfl,hO,hb4⟩
  have hb4:Bl w w4:=slc
  by_cases hg:Nat.gcd x.natAbs D=1
  · rw[hg] at hO
    have hd:=Lib.hid (show decide (Nat.gcd x.natAbs D=1)=true by simp[hg])
    clear hg
    go_wp2_with fail
    refine(l04One_yes _ hO.rd).mono ?_
    rintro e w5 ⟨rfl,q5,rfl⟩
    go_wp2_with fail
    go_ret
    exact⟨ret_bool hd.out.symm,slc⟩
  · have hd:=Lib.hid (show decide (Nat.gcd x.natAbs D=1)=false by simp[hg])
    have hg:=Lib.hid hg;rename_i h_;clear h_
    go_wp2_with fail
    refine(l04One_no _ hO.rd hg.out).mono ?_
    rintro e w5 ⟨rfl,q5,rfl⟩
    go_wp2_with fail
    go_ret
    exact⟨ret_bool hd.out.symm,slc⟩
theorem sRatOk_any (h:RdR w s A n c B m d r) :
    Calls Tryz.prog 50 #[.agg #[.bool s,.slice A n c,.slice B m d]] w fun e w'=> e=.returned (.bool (okR r))∧Bl w w':=by
  have hiff:=okR_iff r
  rw[h.mag.len,h.den.len,← h.neg] at hiff
  by_cases hg:OkB s r.mag∧OkN r.den∧0 < m∧n≤24∧m≤24
  · obtain⟨g1,g2,g3,g4,g5⟩:=hg
    have e1:=g1.1.nv.1
    have e2:=g2.nv.1
    have hn:(rn r).natAbs=nv r.mag:=by unfold rn;split <;> omega
    have hr:r=raw (rn r) (rd r):=by
      obtain⟨s',mag,den⟩:=r
      have hs:=h.neg
      simp only at hs
      subst hs
      unfold raw
      congr 1
      · by_cases hs:s=true
        · have:=g1.2 hs
          simp only at this e1
          rw[e1,ints_len] at this
          have:=dig_len_pos.1 this
          subst hs
          simp[rn]
          omega
        · have:s=false:=by simpa using hs
          subst this
          simp[rn]
      · rw[hn];exact e1
    have hI:IsR w s A n c B m d (rn r) (rd r):=by
      have h2:=h
      rw[hr] at h2
      exact h2
    refine(sRatOk_fine w hI (by rw[← hr];exact okB_yes g1) (by rw[← hr];exact okN_of g2) g3 g4 g5).mono ?_
    rintro e w' ⟨rfl,hb⟩
    refine⟨?_,hb⟩
    congr 2
    by_cases hk:Nat.gcd (nv r.mag) (nv r.den)=1
    · rw[okR_of (hiff.2 ⟨g1,g2,g3,g4,g5,hk⟩),hn]
      simp[rd,hk]
    · rw[okR_no (fun ho=> hk (hiff.1 ho).2.2.2.2.2),hn]
      simp[rd,hk]
  · exact sRatOk_bad w h (fun ho=> hg ⟨(hiff.1 ho).1,(hiff.1 ho).2.1,(hiff.1 ho).2.2.1,(hiff.1 ho).2.2.2.1,(hiff.1 ho).2.2.2.2.1⟩) hg
end

set_option maxHeartbeats 4000000 in
theorem sRatSign_any (w:World) {s:Bool}{A:Option Addr}{n c:Nat}{B:Option Addr}{m d:Nat}{r:RatD}(h:RdR w s A n c B m d r) :
    Calls Tryz.prog 80 #[.agg #[.bool s,.slice A n c,.slice B m d]] w fun e w'=> e=.returned (.int .i64 (sgnR r))∧Bl w w':=by
  by_cases ho:OkR r
  · have hok:=okR_of ho
    have hv:sgnR r=cmpZ (rn r) 0:=by unfold sgnR;rw[if_pos ho]
    rw[hv]
    have hI:=IsR.out h ho
    have hl:=hI.num.lenN
    have hs:=hI.sgn
    clear hv ho
    rcases Nat.eq_zero_or_pos n with h0 | h0
    · have hx:cmpZ (rn r) 0=0:=by
        have:=dig_nil.1 (List.length_eq_zero_iff.1 (hl.trans h0))
        unfold cmpZ
        rw[if_neg (by omega),if_neg (by omega)]
      rw[hx]
      subst h0
      clear hx hl hs
      go_enter Tryz.func80,Tryz.ntmps80
      go_wp2_with fail
      refine(sRatOk_any _ (h.alloc _)).mono ?_
      rw[hok]
      rintro e w1 ⟨rfl,hb1⟩
      obtain⟨i0,i1,i2⟩:=box3 hb1
      go_wp2_with fail
      go_ret
      exact⟨rfl,slc⟩
    · have hne:((n:Int) == 0)=false:=by simp;omega
      have hpos:0 < (rn r).natAbs:=dig_len_pos.1 (by omega)
      rcases Int.lt_or_le (rn r) 0 with hx | hx
      · have hc:cmpZ (rn r) 0=-1:=by unfold cmpZ;rw[if_pos hx]
        rw[hc]
        obtain rfl:s=true:=by rw[hs];simp[hx]
        clear hc hl hs hpos h0 hx hI
        go_enter Tryz.func80,Tryz.ntmps80
        go_wp2_with fail
        refine(sRatOk_any _ (h.alloc _)).mono ?_
        rw[hok]
        rintro e w1 ⟨rfl,hb1⟩
        obtain⟨i0,i1,i2⟩:=box3 hb1
        go_wp2_with fail
        go_ret
        exact⟨rfl,slc⟩
      · have hc:cmpZ (rn r) 0=1:=by unfold cmpZ;rw[if_neg (by omega),if_pos (by omega)]
        rw[hc]
        obtain rfl:s=false:=by rw[hs];simp;omega
        clear hc hl hs hpos h0 hx hI
        go_enter Tryz.func80,Tryz.ntmps80
        go_wp2_with fail
        refine(sRatOk_any _ (h.alloc _)).mono ?_
        rw[hok]
        rintro e w1 ⟨rfl,hb1⟩
        obtain⟨i0,i1,i2⟩:=box3 hb1
        go_wp2_with fail
        go_ret
        exact⟨rfl,slc⟩
  · have hok:=okR_no ho
    have hv:sgnR r=0:=by unfold sgnR;rw[if_neg ho]
    rw[hv]
    clear hv
    have ho:=Lib.hid ho;rename_i h_;clear h_
    go_enter Tryz.func80,Tryz.ntmps80
    go_wp2_with fail
    refine(sRatOk_any _ (h.alloc _)).mono ?_
    rw[hok]
    rintro e w1 ⟨rfl,hb1⟩
    go_wp2_with fail
    go_ret
    exact⟨rfl,slc⟩
theorem sx_mul {x y:Int}{s t:Bool}(hs:s=decide (x < 0)) (ht:t=decide (y < 0)):sx (s != t) (x.natAbs * y.natAbs)=x * y:=by
  have hn:((x.natAbs * y.natAbs:Nat):Int)=(x.natAbs:Int) * (y.natAbs:Int):=Int.natCast_mul _ _
  unfold sx
  rw[hn]
  rcases Int.lt_or_le x 0 with hx | hx <;> rcases Int.lt_or_le y 0 with hy | hy
  · have e1:(x.natAbs:Int)=-x:=by omega
    have e2:(y.natAbs:Int)=-y:=by omega
    rw[hs,ht,e1,e2];simp[hx,hy,Int.neg_mul,Int.mul_neg]
  · have e1:(x.natAbs:Int)=-x:=by omega
    have e2:(y.natAbs:Int)=y:=by omega
    rw[hs,ht,e1,e2];simp[hx,show ¬ y < 0 by omega,Int.neg_mul]
  · have e1:(x.natAbs:Int)=x:=by omega
    have e2:(y.natAbs:Int)=-y:=by omega
    rw[hs,ht,e1,e2];simp[hy,show ¬ x < 0 by omega,Int.mul_neg]
  · have e1:(x.natAbs:Int)=x:=by omega
    have e2:(y.natAbs:Int)=y:=by omega
    rw[hs,ht,e1,e2];simp[show ¬ x < 0 by omega,show ¬ y < 0 by omega]
set_option maxRecDepth 100000 in
set_option maxHeartbeats 8000000 in
theorem l04Mul_any (w:World) {s:Bool}{A:Option Addr}{n c:Nat}{B:Option Addr}{m d:Nat}{x:Int}{D:Nat}{s':Bool}{A':Option Addr}{n' c':Nat}{B':Option Addr}{m' d':Nat}{x':Int}{D':Nat}(h:IsR w s A n c B m d x D) (k:IsR w s' A' n' c' B' m' d' x' D') (hn:n≤262143) (hm:m≤262143) (hn':n'≤262143) (hm':m'≤262143) (hD:0 < D) (hD':0 < D') :
    Calls Tryz.prog 127 #[.agg #[.bool s,.slice A n c,.slice B m d],.agg #[.bool s',.slice A' n' c',.slice B' m' d']] w fun e w'=> ∃ s1 A1 n1 c1 B1 m1 d1,e=.returned (.agg #[.bool s1,.slice A1 n1 c1,.slice B1 m1 d1])∧OwR 3 w.heap.size w' s1 A1 n1 c1 B1 m1 d1 (ofFrac (x * x') (D * D'))∧Bl w w':=by
  have hval:=Lib.hid (show lowS (s != s') (x.natAbs * x'.natAbs) (D * D')=ofFrac (x * x') (D * D') by
    have:=Nat.mul_pos hD hD'
    unfold lowS
    rw[if_neg (by omega),sx_mul h.sgn k.sgn])
  have hl3:=Nat.le_trans (dig_mul_len (Nat.le_of_eq h.num.lenN) (Nat.le_of_eq k.num.lenN)) (show n+n'≤1048570 by omega)
  have hlD:=Nat.le_trans (dig_mul_len (Nat.le_of_eq h.dn.lenN) (Nat.le_of_eq k.dn.lenN)) (show m+m'≤1048570 by omega)
  go_enter Tryz.func127,Tryz.ntmps127
  go_wp2_with fail
  refine wp_gen (fun W=> Bl w W∧Blk W (w.heap.size) 31 #[.bool s,.slice A n c,.slice B m d]∧Blk W (w.heap.size+1) 31 #[.bool s',.slice A' n' c',.slice B' m' d']∧Wk 3 31 (w.heap.size+1+1) W) ⟨slc,bts,bts,bts⟩ ?_
  rintro W ⟨hbW,hx,hx',hr⟩
  have hz3:w.heap.size+1+1 < W.heap.size:=hr.lt
  go_region_held3 (fun w' =>(w'.cell? ⟨w.heap.size,0,none⟩=some (.bool s)∧w'.cell? ⟨w.heap.size,1,none⟩=some (.slice A n c)∧w'.cell? ⟨w.heap.size,2,none⟩=some (.slice B m d))∧(w'.cell? ⟨w.heap.size+1,0,none⟩=some (.bool s')∧w'.cell? ⟨w.heap.size+1,1,none⟩=some (.slice A' n' c')∧w'.cell? ⟨w.heap.size+1,2,none⟩=some (.slice B' m' d'))∧(w'.cell? ⟨w.heap.size+1+1,0,none⟩=some (cellD w' (w.heap.size+1+1) 0)∧w'.cell? ⟨w.heap.size+1+1,1,none⟩=some (cellD w' (w.heap.size+1+1) 1)∧w'.cell? ⟨w.heap.size+1+1,2,none⟩=some (cellD w' (w.heap.size+1+1) 2))∧w'.frozen? ⟨w.heap.size+1+1,0,none⟩=false∧w'.frozen? ⟨w.heap.size+1+1,1,none⟩=false∧w'.frozen? ⟨w.heap.size+1+1,2,none⟩=false) (first | exact⟨bx3 (T:=31) bts,bx3 (T:=31) bts,Wk.out3 (T:=31) bts⟩) (first |(go_at_call 88;with_reducible refine(l02Mul_any _ (h.num.bl slc) (k.num.bl slc) (by omega) (by omega)).mono ?_;rintro e w4 ⟨A4,n4,c4,rfl,hO,hb4⟩) |(go_at_call 88;with_reducible refine(l02Mul_any _ (h.dn.bl slc) (k.dn.bl slc) (by omega) (by omega)).mono ?_;rintro e w5 ⟨A5,n5,c5,rfl,hO5,hb5⟩;(have hl4:n4≤1048570:=by rw[← hO.rd.lenN];exact hl3);(have hl5:n5≤1048570:=by rw[← hO5.rd.lenN];exact hlD);(have hO6:=RdI.bl hO.rd hb5)) |(go_at_call 87;refine(l04Low_any _ (s != s') hO6 hO5.rd hl4 hl5).mono ?_;rintro e w8 ⟨s1,A1,n1,c1,B1,m1,d1,rfl,hR,hb8⟩))
  have hz4:W.heap.size≤w4.heap.size:=(Bl.size hb4:W.drew.heap.size≤_)
  have hz5:w4.heap.size≤w5.heap.size:=Bl.size hb5
  have hr:=(show Wk 3 31 (w.heap.size+1+1) w8 from bts)
  have hbW:Bl w w8:=slc
  rw[hval.out] at hR
  have hR:=hR.mono (show w.heap.size+1+1+1≤w5.heap.size by omega)
  obtain⟨v0,x0⟩:=hr.val_ (i:=0) (by omega)
  obtain⟨v1,x1⟩:=hr.val_ (i:=1) (by omega)
  obtain⟨v2,x2⟩:=hr.val_ (i:=2) (by omega)
  have hg:=hr.lt
  obtain⟨cs4,hB4,hc4⟩:=hr
  have hf0:=hB4.frozen 0
  have hf1:=hB4.frozen 1
  have hf2:=hB4.frozen 2
  go_wp2_with fail
  exact bodyPost_ret (v:=.agg #[.bool s1,.slice A1 n1 c1,.slice B1 m1 d1]) (by simp[results,Tryz.results127,go_sem,x0,x1,x2]) rfl ⟨_,_,_,_,_,_,_,rfl,(((hR.far (by simp) _).far (by simp) _).far (by simp) _).mono (by omega),slc⟩


set_option maxRecDepth 100000 in
set_option maxHeartbeats 4000000 in
theorem sRatMul_any (w:World) {s:Bool}{A:Option Addr}{n c:Nat}{B:Option Addr}{m d:Nat}{r:RatD}{s':Bool}{A':Option Addr}{n' c':Nat}{B':Option Addr}{m' d':Nat}{r':RatD}(h:RdR w s A n c B m d r) (k:RdR w s' A' n' c' B' m' d' r') :
    Calls Tryz.prog 86 #[.agg #[.bool s,.slice A n c,.slice B m d],.agg #[.bool s',.slice A' n' c',.slice B' m' d']] w fun e w'=> ∃ s1 A1 n1 c1 B1 m1 d1,e=.returned (.agg #[.bool s1,.slice A1 n1 c1,.slice B1 m1 d1])∧OwR 3 w.heap.size w' s1 A1 n1 c1 B1 m1 d1 (mulR r r')∧Bl w w':=by
  by_cases ho:OkR r
  · have hok:=okR_of ho
    by_cases ho':OkR r'
    · have hok':=okR_of ho'
      have hI:=IsR.out h ho
      have hI':=IsR.out k ho'
      have hL:=OkR.lens h ho
      have hL':=OkR.lens k ho'
      have hval:=Lib.hid (show mulR r r'=ofFrac (rn r * rn r') (rd r * rd r') by unfold mulR;rw[if_pos ⟨ho,ho'⟩])
      clear ho ho'
      go_enter Tryz.func86,Tryz.ntmps86
      go_wp2_with fail
      refine calls_gen (fun W=> Bl w W∧Blk W (w.heap.size) 31 #[.bool s,.slice A n c,.slice B m d]∧Blk W (w.heap.size+1) 31 #[.bool s',.slice A' n' c',.slice B' m' d']∧Wk 3 31 (w.heap.size+1+1) W) ⟨slc,bts,bts,bts⟩ ?_
      rintro W ⟨hbW,hx,hx',hr⟩
      refine(sRatOk_any _ (h.bl hbW)).mono ?_
      rw[hok]
      rintro e w1 ⟨rfl,hb1⟩
      have hx:=hx.bl hb1
      have hx':=hx'.bl hb1
      have hr:=hr.bl hb1
      have hbW:=hbW.next hb1
      clear hb1
      obtain⟨i0,i1,i2⟩:=bx3 hx
      obtain⟨j0,j1,j2⟩:=bx3 hx'
      go_wp2_with fail
      refine(sRatOk_any _ (k.bl hbW)).mono ?_
      rw[hok']
      rintro e w2 ⟨rfl,hb2⟩
      have hx:=hx.bl hb2
      have hx':=hx'.bl hb2
      have hr:=hr.bl hb2
      have hbW:=hbW.next hb2
      clear hb2
      obtain⟨i0,i1,i2⟩:=bx3 hx
      obtain⟨j0,j1,j2⟩:=bx3 hx'
      go_wp2_with fail
      refine(l04Mul_any _ (RdR.bl hI hbW) (RdR.bl hI' hbW) (by omega) (by omega) (by omega) (by omega) hL.2.2 hL'.2.2).mono ?_
      rintro e w3 ⟨s1,A1,n1,c1,B1,m1,d1,rfl,hR,hb3⟩
      have hR:=hR.mono (show w.heap.size+1+1+1≤w2.heap.size from hr.lt)
      rw[← hval.out] at hR
      have hx:=hx.bl hb3
      have hx':=hx'.bl hb3
      have hr:=hr.bl hb3
      have hbW:=hbW.next hb3
      clear hb3
      obtain⟨i0,i1,i2⟩:=bx3 hx
      obtain⟨j0,j1,j2⟩:=bx3 hx'
      obtain⟨v0,x0⟩:=hr.val_ (i:=0) (by omega)
      obtain⟨v1,x1⟩:=hr.val_ (i:=1) (by omega)
      obtain⟨v2,x2⟩:=hr.val_ (i:=2) (by omega)
      have hg:=hr.lt
      obtain⟨cs4,hB4,hc4⟩:=hr
      have hf0:=hB4.frozen 0
      have hf1:=hB4.frozen 1
      have hf2:=hB4.frozen 2
      go_wp2_with fail
      exact bodyPost_ret (v:=.agg #[.bool s1,.slice A1 n1 c1,.slice B1 m1 d1]) (by simp[results,Tryz.results86,go_sem,x0,x1,x2]) rfl ⟨_,_,_,_,_,_,_,rfl,(((hR.far (by simp) _).far (by simp) _).far (by simp) _).mono (by omega),slc⟩
    · have hok':=okR_no ho'
      have hval:=Lib.hid (show mulR r r'=zR by unfold mulR;rw[if_neg (fun hk=> ho' hk.2)])
      have ho':=Lib.hid ho';rename_i h_;clear h_
      clear ho
      go_enter Tryz.func86,Tryz.ntmps86
      go_wp2_with fail
      refine calls_gen (fun W=> Bl w W∧Blk W (w.heap.size) 31 #[.bool s,.slice A n c,.slice B m d]∧Blk W (w.heap.size+1) 31 #[.bool s',.slice A' n' c',.slice B' m' d']∧Wk 3 31 (w.heap.size+1+1) W) ⟨slc,bts,bts,bts⟩ ?_
      rintro W ⟨hbW,hx,hx',hr⟩
      refine(sRatOk_any _ (h.bl hbW)).mono ?_
      rw[hok]
      rintro e w1 ⟨rfl,hb1⟩
      have hx:=hx.bl hb1
      have hx':=hx'.bl hb1
      have hr:=hr.bl hb1
      have hbW:=hbW.next hb1
      clear hb1
      obtain⟨i0,i1,i2⟩:=bx3 hx
      obtain⟨j0,j1,j2⟩:=bx3 hx'
      go_wp2_with fail
      refine(sRatOk_any _ (k.bl hbW)).mono ?_
      rw[hok']
      rintro e w2 ⟨rfl,hb2⟩
      have hx:=hx.bl hb2
      have hx':=hx'.bl hb2
      have hr:=hr.bl hb2
      have hbW:=hbW.next hb2
      clear hb2
      obtain⟨i0,i1,i2⟩:=bx3 hx
      obtain⟨j0,j1,j2⟩:=bx3 hx'
      obtain⟨v0,x0⟩:=hr.val_ (i:=0) (by omega)
      obtain⟨v1,x1⟩:=hr.val_ (i:=1) (by omega)
      obtain⟨v2,x2⟩:=hr.val_ (i:=2) (by omega)
      have hg:=hr.lt
      obtain⟨cs4,hB4,hc4⟩:=hr
      have hf0:=hB4.frozen 0
      have hf1:=hB4.frozen 1
      have hf2:=hB4.frozen 2
      go_wp2_with fail
      exact bodyPost_ret (v:=.agg #[.bool false,.slice none 0 0,.slice none 0 0]) (by simp[results,Tryz.results86,go_sem,x0,x1,x2]) rfl ⟨_,_,_,_,_,_,_,rfl,by rw[hval.out];exact OwR.zero _ _ _,slc⟩
  · have hok:=okR_no ho
    have hval:=Lib.hid (show mulR r r'=zR by unfold mulR;rw[if_neg (fun hk=> ho hk.1)])
    have ho:=Lib.hid ho;rename_i h_;clear h_
    go_enter Tryz.func86,Tryz.ntmps86
    go_wp2_with fail
    refine calls_gen (fun W=> Bl w W∧Blk W (w.heap.size) 31 #[.bool s,.slice A n c,.slice B m d]∧Blk W (w.heap.size+1) 31 #[.bool s',.slice A' n' c',.slice B' m' d']∧Wk 3 31 (w.heap.size+1+1) W) ⟨slc,bts,bts,bts⟩ ?_
    rintro W ⟨hbW,hx,hx',hr⟩
    refine(sRatOk_any _ (h.bl hbW)).mono ?_
    rw[hok]
    rintro e w1 ⟨rfl,hb1⟩
    have hx:=hx.bl hb1
    have hx':=hx'.bl hb1
    have hr:=hr.bl hb1
    have hbW:=hbW.next hb1
    clear hb1
    obtain⟨i0,i1,i2⟩:=bx3 hx
    obtain⟨j0,j1,j2⟩:=bx3 hx'
    obtain⟨v0,x0⟩:=hr.val_ (i:=0) (by omega)
    obtain⟨v1,x1⟩:=hr.val_ (i:=1) (by omega)
    obtain⟨v2,x2⟩:=hr.val_ (i:=2) (by omega)
    have hg:=hr.lt
    obtain⟨cs4,hB4,hc4⟩:=hr
    have hf0:=hB4.frozen 0
    have hf1:=hB4.frozen 1
    have hf2:=hB4.frozen 2
    go_wp2_with fail
    exact bodyPost_ret (v:=.agg #[.bool false,.slice none 0 0,.slice none 0 0]) (by simp[results,Tryz.results86,go_sem,x0,x1,x2]) rfl ⟨_,_,_,_,_,_,_,rfl,by rw[hval.out];exact OwR.zero _ _ _,slc⟩

theorem OwI.grown {T:TypeId}{b0:Nat}{w w':World}{A:Option Addr}{n c:Nat}{l:List Int}{row:Option Nat}(h:OwI T b0 w A n c l) (hg:w.grownBy w' row) (hr:∀ k,row=some k→k < b0):OwI T b0 w' A n c l:=by
  obtain⟨bs,h1,hf⟩:=FtI.of_own h
  have h2:FtI T w' A n c l bs:=h1.keep hg.size (fun b hb=> hg.block b (hf.2 b hb).2 (by intro e;have:=hr b e.symm;have:=(hf.2 b hb).1;omega))
  refine⟨h2.1,?_⟩
  rcases h2.2 with ⟨h0,_⟩ |⟨g,cs,_,e,hh,hn,e2⟩
  · exact .inl h0
  · exact .inr ⟨g,cs,e,(hf.2 g (by rw[e2];simp)).1,hh,hn⟩
/-- append of a whole slice that reads as ys, as one step of a region that draws its order. -/
theorem step_append_x {P:Program}{E t:TypeId}(hinfo:(P.info? E).map (fun i =>(i.zero,i.size,i.bytes))=some (some (.int .i64 0),1,8)) (ht:P.underlying t=some (.slice E))
    {w0 W:World}{ops:Array Oper}{o:Oper}{a:Act}{K:Act→World→Prop}{Q:Exit→Act→World→Prop}{F:Prop}(hgd:o.guard=none) (s x:Operand)
    (ho:o.op=.call { callee:=.builtin .append,args:=#[s,x],argTypes:=#[t,t] }) (v:Value) (l:List Int) (hs:a.eval s=v) (hown:OwL E w0.heap.size W v l) (hb:Bl w0 W)
    (A:Option Addr) (m c:Nat) (hx:a.eval x=.slice A m c) (ys:List Int) (hr:RdI W A m c ys) (hlen:l.length≤1099511627776) (hm:m≤1099511627776)
    (h:∀ v' w',OwL E w0.heap.size w' v' (l ++ ys)→Bl w0 w'→W.grownBy w' v.ownBlock→K (a.put o.dst v') w'):if Region.wanted o (yielded ops a.tmps)=true then Oper.wp P o a W K Q else F:=by
  have hw:Region.wanted o (yielded ops a.tmps)=true:=by simp[Region.wanted,hgd]
  rw[if_pos hw]
  obtain⟨i0,hi,hz0,hz1,hz2⟩:=info_parts hinfo
  rcases A with _ | ad
  · have hm0:m=0:=by
      rcases Nat.eq_zero_or_pos m with h0 | h0
      · exact h0
      · obtain⟨_,e,_⟩:=hr.at_ h0
        cases e
    subst hm0
    have hy:ys=[]:=List.length_eq_zero_iff.1 hr.len
    subst hy
    have hrun:=run_append_nil' (P:=P) W w0.heap.size (ty:=o.type) ht hi hown c
    unfold Oper.wp execOp
    simp only[ho,resolve,invoke,builtin,Sem.run_bind,Sem.run_pure,Result.andThen_ok,List.map_toArray,List.map_cons,List.map_nil,hs,hx,hrun]
    exact h v W (by rw[List.append_nil];exact hown) hb (World.grownBy.refl W _)
  · obtain ⟨v', w', hrun, h2, h3, _⟩ := run_append_own_at (P := P) W w0.heap.size t o.type E i0 (.int .i64 0) 1 8 ht hi hz0 hz1 hz2 rfl (by omega) v l.length (l.map (Value.int .i64)) hown ad m c (ys.map (Value.int .i64)) (by simp [hr.len]) (by
      intro j u hu
      rw[List.getElem?_map] at hu
      have hj:j < m:=by
        rcases Nat.lt_or_ge j ys.length with h | h
        · rw[hr.len] at h;exact h
        · rw[List.getElem?_eq_none h] at hu;simp at hu
      obtain⟨ad',e,_,hc⟩:=hr.at_ hj
      injection e with e
      subst e
      rw[hc]
      rw[List.getElem?_eq_getElem (by rw[hr.len];exact hj)] at hu
      simp at hu
      rw[← hu]
      simp[ix,hr.len,hj]) (by intro u hu;simp at hu;obtain⟨z,_,rfl⟩:=hu;rfl) (by simp only[maxLen];omega) (by omega) hb.size
    unfold Oper.wp execOp
    simp only[ho,resolve,invoke,builtin,Sem.run_bind,Sem.run_pure,Result.andThen_ok,List.map_toArray,List.map_cons,List.map_nil,hs,hx,hrun]
    refine h v' w' ?_ (hb.grown h3 hown.blockLe) h3
    unfold OwL
    rw[List.length_append,hr.len]
    simpa using h2
end

section
open Go.RowKit

theorem OwL.grown {E:TypeId}{base:Nat}{w w':World}{v:Value}{l:List Int}{row:Option Nat}(h:OwL E base w v l) (hg:w.grownBy w' row) (hr:∀ k,row=some k→v.ownBlock≠some k):OwL E base w' v l:=by
  refine⟨h.1,?_⟩
  rcases h.2 with h2 |⟨g,cap,cur,hv,hgb,hh,r⟩
  · exact .inl h2
  · exact .inr ⟨g,cap,cur,hv,hgb,(hg.block g (heap_lt hh) (by intro e;exact hr g e.symm (by rw[hv];rfl))).trans hh,r⟩
theorem OwI.past {T E:TypeId}{b0 k:Nat}{w w':World}{A:Option Addr}{n c:Nat}{l:List Int}(h:OwI T b0 w A n c l) (hg:w.grownBy w' (some k)) (hk:w.heap[k]?=some (.cells #[] E)):OwI T b0 w' A n c l:=by
  obtain⟨bs,h1,hf⟩:=FtI.of_own h
  have h2 : FtI T w' A n c l bs := h1.keep hg.size (fun b hb => hg.block b (hf.2 b hb).2 (by
    intro e
    injection e with e
    subst e
    rcases h1.2 with ⟨_,e2⟩ |⟨g,cs,h0,_,hh,hn,e2⟩
    · rw[e2] at hb;cases hb
    · rw[e2] at hb
      simp at hb
      subst hb
      rw[hk] at hh
      injection hh with hh
      injection hh with hh
      subst hh
      simp at hn
      omega))
  refine⟨h2.1,?_⟩
  rcases h2.2 with ⟨h0,_⟩ |⟨g,cs,_,e,hh,hn,e2⟩
  · exact .inl h0
  · exact .inr ⟨g,cs,e,(hf.2 g (by rw[e2];simp)).1,hh,hn⟩
theorem OwL.empty1 {E:TypeId}{base:Nat}(W:World) (o:Obj) {cur:Array Value}(hb:base≤W.heap.size+1) (hm:cur.size≤maxLen):OwL E base ((W.alloc o).alloc (.cells cur E)) (.slice (some ⟨W.heap.size+1,0,none⟩) 0 cur.size) []:=by
  have h:=OwL.empty (E:=E) (base:=base) (W.alloc o) (cur:=cur) (by rw[World.size_alloc];exact hb) hm
  rwa [World.size_alloc] at h
/-- A fraction in memory of its own (its two slices may share it). -/
def OwQ (T:TypeId) (b0:Nat) (w:World) (s:Bool) (A:Option Addr) (n c:Nat) (B:Option Addr) (m d:Nat) (r:RatD):Prop :=
  ∃ bs,FtR T w s A n c B m d r bs∧∀ b ∈ bs,b0≤b∧b < w.heap.size
section
variable {T:TypeId}{b0 b1:Nat}{w W:World}{s:Bool}{A:Option Addr}{n c:Nat}{B:Option Addr}{m d:Nat}{r:RatD}
theorem OwQ.of (h:OwR T b0 w s A n c B m d r):OwQ T b0 w s A n c B m d r:=by
  obtain⟨bs,h,hf⟩:=h
  exact⟨bs,h,hf.2⟩
theorem OwQ.rd (h:OwQ T b0 w s A n c B m d r):RdR w s A n c B m d r:=by
  obtain⟨bs,h,_⟩:=h
  exact h.rd
theorem OwQ.two (hs:s=r.neg) (h:OwI T b0 w A n c r.mag) (k:OwI T b0 w B m d r.den):OwQ T b0 w s A n c B m d r:=by
  obtain⟨b1,h1,f1⟩:=FtI.of_own h
  obtain⟨b2,h2,f2⟩:=FtI.of_own k
  refine⟨b1 ++ b2,⟨hs,b1,b2,h1,h2,rfl⟩,fun b hb=> ?_⟩
  rcases List.mem_append.1 hb with hb | hb
  · exact f1.2 b hb
  · exact f2.2 b hb
theorem OwQ.bl (h:OwQ T b0 w s A n c B m d r) (hb:Bl w W):OwQ T b0 W s A n c B m d r:=by
  obtain⟨bs,h,hf⟩:=h
  exact⟨bs,h.bl hb,fun b hm =>⟨(hf b hm).1,Nat.lt_of_lt_of_le (hf b hm).2 hb.size⟩⟩
theorem OwQ.mono (h:OwQ T b1 w s A n c B m d r) (hb:b0≤b1):OwQ T b0 w s A n c B m d r:=by
  obtain⟨bs,h,hf⟩:=h
  exact⟨bs,h,fun b hm =>⟨Nat.le_trans hb (hf b hm).1,(hf b hm).2⟩⟩
theorem OwQ.far (h:OwQ T b0 w s A n c B m d r) {q:Addr}(hp:q.block < b0) (u:Value):OwQ T b0 (w.setCell q u) s A n c B m d r:=by
  obtain⟨bs,h,hf⟩:=h
  refine⟨bs,h.keep (by simp) (fun b hb=> Below.heap_setCell w q u b (by have:=(hf b hb).1;omega)),fun b hm=> ?_⟩
  have:=hf b hm
  simpa using this
end

set_option maxRecDepth 100000 in
set_option maxHeartbeats 8000000 in
theorem l04Copy_any (w:World) {s:Bool}{A:Option Addr}{n c:Nat}{B:Option Addr}{m d:Nat}{r:RatD}(h:RdR w s A n c B m d r) (hn:n≤1048576) (hm:m≤1048576) :
    Calls Tryz.prog 52 #[.agg #[.bool s,.slice A n c,.slice B m d]] w fun e w'=> ∃ s1 A1 n1 c1 B1 m1 d1,e=.returned (.agg #[.bool s1,.slice A1 n1 c1,.slice B1 m1 d1])∧OwQ 3 w.heap.size w' s1 A1 n1 c1 B1 m1 d1 r∧Bl w w':=by
  have hs:=Lib.hid h.neg
  have hl1:Hid ((([]:List Int) ++ r.mag).length=n):=by have:=RdI.len h.mag;unfold Hid;simpa using this
  have hl2:Hid ((([]:List Int) ++ r.den).length=m):=by have:=RdI.len h.den;unfold Hid;simpa using this
  go_enter Tryz.func52,Tryz.ntmps52
  go_wp2_with fail
  refine wp_gen (fun W=> Bl w W∧Blk W (w.heap.size) 31 #[.bool s,.slice A n c,.slice B m d]∧Wk 3 31 (w.heap.size+1) W) ⟨slc,bts,bts⟩ ?_
  rintro W ⟨hbW,hx,hr⟩
  have hzW:=hr.lt
  go_region_held3 (fun w' =>(w'.cell? ⟨w.heap.size,0,none⟩=some (.bool s)∧w'.cell? ⟨w.heap.size,1,none⟩=some (.slice A n c)∧w'.cell? ⟨w.heap.size,2,none⟩=some (.slice B m d))∧(w'.cell? ⟨w.heap.size+1,0,none⟩=some (cellD w' (w.heap.size+1) 0)∧w'.cell? ⟨w.heap.size+1,1,none⟩=some (cellD w' (w.heap.size+1) 1)∧w'.cell? ⟨w.heap.size+1,2,none⟩=some (cellD w' (w.heap.size+1) 2))∧w'.frozen? ⟨w.heap.size+1,0,none⟩=false∧w'.frozen? ⟨w.heap.size+1,1,none⟩=false∧w'.frozen? ⟨w.heap.size+1,2,none⟩=false) (first | exact⟨bx3 (T:=31) bts,Wk.out3 (T:=31) bts⟩) (first |(refine step_append_x (w0:=W) info_int Tryz.underlying27 rfl (.tmp 6) (.tmp 9) rfl _ [] (by rfl) (OwL.empty W.drew (Nat.le_refl _) (by simp)) slc A n c (by rfl) r.mag (h.mag.bl slc) (by simp) (by omega) ?_;intro v1 w5 hown hb5 hg5;(obtain⟨A1,c1,hv,ho1⟩:=hown.own (by rw[hl1.out];omega));rw[hl1.out] at hv ho1;subst hv;rw[List.nil_append] at ho1) |(refine step_append_x (w0:=W) info_int Tryz.underlying27 rfl (.tmp 6) (.tmp 9) rfl _ [] (by rfl) ((OwL.empty W.drew (Nat.le_refl _) (by simp)).alloc _) slc A n c (by rfl) r.mag (h.mag.bl slc) (by simp) (by omega) ?_;intro v1 w5 hown hb5 hg5;(obtain⟨A1,c1,hv,ho1⟩:=hown.own (by rw[hl1.out];omega));rw[hl1.out] at hv ho1;subst hv;rw[List.nil_append] at ho1) |(refine step_append_x (w0:=W) info_int Tryz.underlying27 rfl (.tmp 6) (.tmp 9) rfl _ [] (by rfl) (OwL.empty1 W.drew _ (Nat.le_succ _) (by simp)) slc A n c (by rfl) r.mag (h.mag.bl slc) (by simp) (by omega) ?_;intro v1 w5 hown hb5 hg5;(obtain⟨A1,c1,hv,ho1⟩:=hown.own (by rw[hl1.out];omega));rw[hl1.out] at hv ho1;subst hv;rw[List.nil_append] at ho1) |(refine step_append_x (w0:=w5) info_int Tryz.underlying27 rfl (.tmp 12) (.tmp 14) rfl _ [] (by rfl) (OwL.empty w5 (Nat.le_refl _) (by simp)) slc B m d (by rfl) r.den (h.den.bl slc) (by simp) (by omega) ?_;intro v2 w6 hown hb6 hg6;(obtain⟨B1,d1,hv,ho2⟩:=hown.own (by rw[hl2.out];omega));rw[hl2.out] at hv ho2;subst hv;rw[List.nil_append] at ho2) |(refine step_append_x (w0:=W) info_int Tryz.underlying27 rfl (.tmp 12) (.tmp 14) rfl _ [] (by rfl) (((OwL.empty1 (base:=W.heap.size) W _ (Nat.le_succ _) (by simp)).drew).grown hg5 (by intro k hk;simp[Value.ownBlock] at hk ⊢;omega)) slc B m d (by rfl) r.den (h.den.bl slc) (by simp) (by omega) ?_;intro v2 w6 hown hb6 hg6;(obtain⟨B1,d1,hv,ho2⟩:=hown.own (by rw[hl2.out];omega));rw[hl2.out] at hv ho2;subst hv;rw[List.nil_append] at ho2) |(refine step_append_x (w0:=W) info_int Tryz.underlying27 rfl (.tmp 12) (.tmp 14) rfl _ [] (by rfl) ((((OwL.empty (base:=W.heap.size) W (Nat.le_refl _) (by simp)).alloc _).drew).grown hg5 (by intro k hk;simp[Value.ownBlock] at hk ⊢;omega)) slc B m d (by rfl) r.den (h.den.bl slc) (by simp) (by omega) ?_;intro v2 w6 hown hb6 hg6;(obtain⟨B1,d1,hv,ho2⟩:=hown.own (by rw[hl2.out];omega));rw[hl2.out] at hv ho2;subst hv;rw[List.nil_append] at ho2))
  · have hz5:=hb5.size
    have hbW:Bl w w6:=(hbW.next hb5).next hb6
    have hr:=(hr.bl hb5).bl hb6
    have hA:=ho1.bl hb6
    have hB:=ho2
    obtain⟨v0,x0⟩:=hr.val_ (i:=0) (by omega)
    obtain⟨v1,x1⟩:=hr.val_ (i:=1) (by omega)
    obtain⟨v2,x2⟩:=hr.val_ (i:=2) (by omega)
    have hg:=hr.lt
    obtain⟨cs4,hB4,hc4⟩:=hr
    have hf0:=hB4.frozen 0
    have hf1:=hB4.frozen 1
    have hf2:=hB4.frozen 2
    go_wp2_with fail
    refine bodyPost_ret (v:=.agg #[.bool s,.slice A1 n c1,.slice B1 m d1]) (by simp[results,Tryz.results52,go_sem,x0,x1,x2]) rfl ⟨_,_,_,_,_,_,_,rfl,OwQ.two hs.out ?_ ?_,slc⟩
    · exact(((hA.far (by simp;omega) _).far (by simp;omega) _).far (by simp;omega) _).mono (by omega)
    · exact(((hB.far (by simp;omega) _).far (by simp;omega) _).far (by simp;omega) _).mono (by omega)
  · have hbW:=hbW.next hb6
    have hr:=hr.bl hb6
    have hA:=ho1.past (E:=3) (k:=W.heap.size+1) hg6 ((hg5.block _ (by simp) (by simp[Value.ownBlock])).trans (by have:=heap_alloc_new (W.alloc (.cells #[] 3)) (.cells #[] 3);rwa [World.size_alloc] at this))
    have hB:=ho2
    obtain⟨v0,x0⟩:=hr.val_ (i:=0) (by omega)
    obtain⟨v1,x1⟩:=hr.val_ (i:=1) (by omega)
    obtain⟨v2,x2⟩:=hr.val_ (i:=2) (by omega)
    have hg:=hr.lt
    obtain⟨cs4,hB4,hc4⟩:=hr
    have hf0:=hB4.frozen 0
    have hf1:=hB4.frozen 1
    have hf2:=hB4.frozen 2
    go_wp2_with fail
    refine bodyPost_ret (v:=.agg #[.bool s,.slice A1 n c1,.slice B1 m d1]) (by simp[results,Tryz.results52,go_sem,x0,x1,x2]) rfl ⟨_,_,_,_,_,_,_,rfl,OwQ.two hs.out ?_ ?_,slc⟩
    · exact(((hA.far (by simp;omega) _).far (by simp;omega) _).far (by simp;omega) _).mono (by omega)
    · exact(((hB.far (by simp;omega) _).far (by simp;omega) _).far (by simp;omega) _).mono (by omega)
  · have hbW:=hbW.next hb6
    have hr:=hr.bl hb6
    have hA:=ho1.past (E:=3) (k:=W.heap.size) hg6 ((hg5.block _ (by simp;omega) (by simp[Value.ownBlock])).trans (Blk.alloc (Blk.new W 3 #[]) _))
    have hB:=ho2
    obtain⟨v0,x0⟩:=hr.val_ (i:=0) (by omega)
    obtain⟨v1,x1⟩:=hr.val_ (i:=1) (by omega)
    obtain⟨v2,x2⟩:=hr.val_ (i:=2) (by omega)
    have hg:=hr.lt
    obtain⟨cs4,hB4,hc4⟩:=hr
    have hf0:=hB4.frozen 0
    have hf1:=hB4.frozen 1
    have hf2:=hB4.frozen 2
    go_wp2_with fail
    refine bodyPost_ret (v:=.agg #[.bool s,.slice A1 n c1,.slice B1 m d1]) (by simp[results,Tryz.results52,go_sem,x0,x1,x2]) rfl ⟨_,_,_,_,_,_,_,rfl,OwQ.two hs.out ?_ ?_,slc⟩
    · exact(((hA.far (by simp;omega) _).far (by simp;omega) _).far (by simp;omega) _).mono (by omega)
    · exact(((hB.far (by simp;omega) _).far (by simp;omega) _).far (by simp;omega) _).mono (by omega)
end

section
open Go.RowKit

set_option maxRecDepth 100000 in
set_option maxHeartbeats 8000000 in
theorem l04Neg_any (w:World) {s:Bool}{A:Option Addr}{n c:Nat}{B:Option Addr}{m d:Nat}{x:Int}{D:Nat}(h:IsR w s A n c B m d x D) (hn:n≤60) (hm:m≤1048576) :
    Calls Tryz.prog 126 #[.agg #[.bool s,.slice A n c,.slice B m d]] w fun e w'=> ∃ s1 A1 n1 c1 B1 m1 d1,e=.returned (.agg #[.bool s1,.slice A1 n1 c1,.slice B1 m1 d1])∧IsR w' s1 A1 n1 c1 B1 m1 d1 (-x) D∧Bl w w':=by
  have hs:=Lib.hid h.sgn
  have hl1:Hid ((([]:List Int) ++ ints (dig D)).length=m):=by have:=RdI.len h.dn;unfold Hid;simpa using this
  go_enter Tryz.func126,Tryz.ntmps126
  go_wp2_with fail
  refine wp_gen (fun W=> Bl w W∧Blk W (w.heap.size) 31 #[.bool s,.slice A n c,.slice B m d]∧Wk 3 31 (w.heap.size+1) W) ⟨slc,bts,bts⟩ ?_
  rintro W ⟨hbW,hx,hr⟩
  have hzW:=hr.lt
  go_region_held3 (fun w' =>(w'.cell? ⟨w.heap.size,0,none⟩=some (.bool s)∧w'.cell? ⟨w.heap.size,1,none⟩=some (.slice A n c)∧w'.cell? ⟨w.heap.size,2,none⟩=some (.slice B m d))∧(w'.cell? ⟨w.heap.size+1,0,none⟩=some (cellD w' (w.heap.size+1) 0)∧w'.cell? ⟨w.heap.size+1,1,none⟩=some (cellD w' (w.heap.size+1) 1)∧w'.cell? ⟨w.heap.size+1,2,none⟩=some (cellD w' (w.heap.size+1) 2))∧w'.frozen? ⟨w.heap.size+1,0,none⟩=false∧w'.frozen? ⟨w.heap.size+1,1,none⟩=false∧w'.frozen? ⟨w.heap.size+1,2,none⟩=false) (first | exact⟨bx3 (T:=31) bts,Wk.out3 (T:=31) bts⟩) (first |(go_at_call 95;refine(l03Make_any _ _ (h.num.bl slc) hn).mono ?_;rintro e w4 ⟨s1,A1,n1,c1,rfl,hs1,hO1,hb4⟩;(have hz4:w.heap.size+1 < w4.heap.size:=Wk.lt (k:=3) (T:=31) bts)) |(refine step_append_x (w0:=w4) info_int Tryz.underlying27 rfl (.tmp 11) (.tmp 13) rfl _ [] (by rfl) (OwL.empty w4 (Nat.le_refl _) (by simp)) ((Bl.refl w4).alloc _) B m d (by rfl) (ints (dig D)) (h.dn.bl slc) (by simp) (by omega) ?_;intro v1 w5 hown hb5 hgr;obtain⟨B1,d1,hv1,ho1⟩:=hown.own (by rw[hl1.out];omega);rw[hl1.out] at hv1 ho1;subst hv1) |(refine step_append_x (w0:=W) info_int Tryz.underlying27 rfl (.tmp 11) (.tmp 13) rfl _ [] (by rfl) (((OwL.empty W (Nat.le_refl _) (by simp)).drew).bl hb4) (Bl.next (((Bl.refl W).alloc _).drew) hb4) B m d (by rfl) (ints (dig D)) (h.dn.bl slc) (by simp) (by omega) ?_;intro v1 w5 hown hb5 hgr;obtain⟨B1,d1,hv1,ho1⟩:=hown.own (by rw[hl1.out];omega);rw[hl1.out] at hv1 ho1;subst hv1))
  · have hz5:w4.heap.size≤w5.heap.size:=Bl.size hb5
    have hr:=(show Wk 3 31 (w.heap.size+1) w5 from bts)
    have hbW:Bl w w5:=slc
    have hO1:=(hO1.mono (show w.heap.size+1+1≤W.drew.heap.size from hzW)).bl hb5
    have ho1:=ho1.mono (show w.heap.size+1+1≤w4.heap.size from hz4)
    rw[List.nil_append] at ho1
    obtain⟨v0,x0⟩:=hr.val_ (i:=0) (by omega)
    obtain⟨v1,x1⟩:=hr.val_ (i:=1) (by omega)
    obtain⟨v2,x2⟩:=hr.val_ (i:=2) (by omega)
    have hg:=hr.lt
    obtain⟨cs4,hB4,hc4⟩:=hr
    have hf0:=hB4.frozen 0
    have hf1:=hB4.frozen 1
    have hf2:=hB4.frozen 2
    go_wp2_with fail
    refine bodyPost_ret (v:=.agg #[.bool s1,.slice A1 n1 c1,.slice B1 m d1]) (by simp[results,Tryz.results126,go_sem,x0,x1,x2]) rfl ⟨_,_,_,_,_,_,_,rfl,⟨?_,?_,?_⟩,slc⟩
    · rw[hs1.out]
      refine signed_neg (x:=-x) (by omega) fun h0=> ?_
      rw[hs.out]
      by_cases hx0:x < 0
      · simp[hx0];omega
      · simp[hx0];omega
    · show RdI _ A1 n1 c1 (ints (dig (-x).natAbs))
      rw[Int.natAbs_neg]
      exact(((hO1.far (by simp) _).far (by simp) _).far (by simp) _).rd
    · exact(((ho1.far (by simp) _).far (by simp) _).far (by simp) _).rd
  · have hr:=(show Wk 3 31 (w.heap.size+1) w5 from hr.bl hb5)
    have hbW:Bl w w5:=hbW.next hb5
    have hO1:=(hO1.grown hgr (by intro k hk;injection hk with hk;subst hk;simp)).mono (show w.heap.size+1+1≤_ by simp;omega)
    have ho1:=ho1.mono (show w.heap.size+1+1≤W.heap.size from hzW)
    rw[List.nil_append] at ho1
    obtain⟨v0,x0⟩:=hr.val_ (i:=0) (by omega)
    obtain⟨v1,x1⟩:=hr.val_ (i:=1) (by omega)
    obtain⟨v2,x2⟩:=hr.val_ (i:=2) (by omega)
    have hg:=hr.lt
    obtain⟨cs4,hB4,hc4⟩:=hr
    have hf0:=hB4.frozen 0
    have hf1:=hB4.frozen 1
    have hf2:=hB4.frozen 2
    go_wp2_with fail
    refine bodyPost_ret (v:=.agg #[.bool s1,.slice A1 n1 c1,.slice B1 m d1]) (by simp[results,Tryz.results126,go_sem,x0,x1,x2]) rfl ⟨_,_,_,_,_,_,_,rfl,⟨?_,?_,?_⟩,slc⟩
    · rw[hs1.out]
      refine signed_neg (x:=-x) (by omega) fun h0=> ?_
      rw[hs.out]
      by_cases hx0:x < 0
      · simp[hx0];omega
      · simp[hx0];omega
    · show RdI _ A1 n1 c1 (ints (dig (-x).natAbs))
      rw[Int.natAbs_neg]
      exact(((hO1.far (by simp) _).far (by simp) _).far (by simp) _).rd
    · exact(((ho1.far (by simp) _).far (by simp) _).far (by simp) _).rd
end

end Go.Proofs.YtjaapemopbbfaaaGreat
