/- Lemmas. -/
import Derived.Test.YtjaapemopbbfaaaGreatRows
import Derived.Test.YtjaapemopbbfaaaGreatPWorstShapeM24
import Derived.Test.YtjaapemopbbfaaaGreatPWorstShapeM23
import Derived.Test.YtjaapemopbbfaaaGreatPWorstShapeM08
import Derived.Test.YtjaapemopbbfaaaGreatPWorstShapeM07
import Derived.Test.YtjaapemopbbfaaaGreatPWorstShapeM22
import Derived.Test.YtjaapemopbbfaaaGreatPWorstShapeM19
import Derived.Deep.Cut
import Derived.Deep.DeepCutAuto
namespace Go.Proofs.YtjaapemopbbfaaaGreat
section
open Go.RowKit

theorem Ob.cellOf {bs:List Nat}{w W:World}(h:Ob bs w W) {b o:Nat}(hb:b < w.heap.size) (hn:b ∉ bs):W.cell? ⟨b,o,none⟩=w.cell? ⟨b,o,none⟩:=World.cell?_of_block (w:=w) (h.block b hb hn)

set_option maxHeartbeats 4000000 in
theorem markMesh_any {T TP TT:TypeId}(w:World) {g g' n c m d:Nat}{x:MeD}{cs cs':Array Value}{fs:List (List Nat)}{k0:Int}(hB:Blk w g TP cs) (hcs:cs.size=n * 6) (hP:PtsIn T w cs x.points n fs) (hB':Blk w g' TT cs') (hcs':cs'.size=m * 5)
    (hl:x.points.length=n) (hg:g ∉ fs.flatten) (hg':g' ∉ fs.flatten) (hne:g≠g') (hnd:fs.flatten.Nodup) (hn:n≤1048576) (hm:m≤1048576) (hsz:szL szP x.points≤1048576) (h0:0≤k0) (h1:k0≤1073741824) :
    Calls Tryz.prog 10 #[.agg #[.slice (some ⟨g,0,none⟩) n c,.slice (some ⟨g',0,none⟩) m d],.int .i64 k0] w fun e w'=> ∃ K:Int,e=.returned (.int .i64 K)∧0≤K∧Ob (g :: g' :: fs.flatten) w w':=by
  have hgl:=hB.lt
  have hgl':=hB'.lt
  have hfl:∀ b ∈ fs.flatten,b < w.heap.size:=by
    intro b hb
    obtain⟨l,hl',hb'⟩:=List.mem_flatten.1 hb
    obtain⟨i,hi,rfl⟩:=List.getElem_of_mem hl'
    have:=(hP.2 i (by rw[← hP.1];exact hi)).lt b (by simpa [pix,hi] using hb')
    exact this
  have hsum:=sumTo_adv x.points n
  have hsz2:sumTo szP x.points n≤1048576:=by unfold szL at hsz;rw[hl] at hsz;omega
  have hl:=Lib.hid hl;rename_i h_;clear h_
  have hk:Hid (k0+(sumTo adv x.points n:Int)≤1099511627776):=by unfold Hid;omega
  have hk0:Hid (0≤k0+(sumTo adv x.points n:Int)):=by unfold Hid;omega
  clear hsum hsz2
  go_enter Tryz.func10,Tryz.ntmps10
  go_wp2_with fail
  have hbl:=(Bl.refl w).alloc (.cells #[.slice (some ⟨g,0,none⟩) n c,.slice (some ⟨g',0,none⟩) m d] 36)
  refine(markPointS_any _ (hB.bl hbl) (by omega) (hP.bl hbl hfl) hl.out hg hnd hn hsz h0 h1).mono ?_
  rintro e w2 ⟨rfl,cs2,hB2,hc2,hP2,ho2⟩
  have hnb:w.heap.size ∉ g :: fs.flatten:=by
    intro hm
    rcases List.mem_cons.1 hm with e | hm
    · omega
    · have:=hfl _ hm;omega
  have q0:=ho2.cellOf (o:=0) (show w.heap.size < _ by simp) hnb
  have q1:=ho2.cellOf (o:=1) (show w.heap.size < _ by simp) hnb
  have hB3 := (hB'.bl hbl).ob ho2 (by
    intro hm
    rcases List.mem_cons.1 hm with e | hm
    · exact hne e.symm
    · exact hg' hm)
  clear hB2 hc2 hP2 hB hP
  go_wp2_with fail
  refine(markTriS_any _ hB3 hcs' hm hk0.out hk.out).mono ?_
  rintro e w3 ⟨rfl,cs3,hB4,hc3,hT,ho3⟩
  go_wp2_with fail
  go_ret
  refine⟨_,rfl,by have:=hk0.out;omega,?_⟩
  exact(Ob.of_bl hbl _).trans ((ho2.mono (by intro b hb;rcases List.mem_cons.1 hb with rfl | hb <;> simp[*])).trans (ho3.mono (by simp)))
end

section
open Go.RowKit
section
variable {lo hi:Nat}{w W:World}{A:Option Addr}{n c:Nat}{B:Option Addr}{m d:Nat}{x:MeD}
end
end

section
open Go.RowKit
end

section
open Go.RowKit
end

section
open Go.RowKit

section
variable {TI TR TS:TypeId}{w W:World}{A:Option Addr}{n c i lo hi lo' hi':Nat}{cs cs':Array Value}{l:List RatD}{L:List (List RatD)}{bs xs:List Nat}
end
end

section
open Go.RowKit
section
variable {N:List Nat→Prop}{lo hi:Nat}{w W:World}{v:Value}{l:List RatD}{L:List (List RatD)}
end
end

section
open Go.RowKit
end

section
open Go.RowKit
set_option maxRecDepth 100000 in
set_option maxHeartbeats 32000000 in
theorem l04Add_nn (w:World) {s:Bool}{A:Option Addr}{n c:Nat}{B:Option Addr}{m d:Nat}{x:Int}{D:Nat}{s':Bool}{A':Option Addr}{n' c':Nat}{B':Option Addr}{m' d':Nat}{x':Int}{D':Nat}(h:IsR w s A n c B m d x D) (k:IsR w s' A' n' c' B' m' d' x' D') (hn:n≤24) (hm:m≤24) (hn':n'≤24) (hm':m'≤24) (hD:0 < D) (hD':0 < D') (h12:¬ (D=1∧D'=1)) :
    Calls Tryz.prog 125 #[.agg #[.bool s,.slice A n c,.slice B m d],.agg #[.bool s',.slice A' n' c',.slice B' m' d']] w fun e w'=> ∃ s1 A1 n1 c1 B1 m1 d1,e=.returned (.agg #[.bool s1,.slice A1 n1 c1,.slice B1 m1 d1])∧OwR 3 w.heap.size w' s1 A1 n1 c1 B1 m1 d1 (ofFrac (x * D'+x' * D) (D * D'))∧Bl w w':=by
  have hm1:(dig (x.natAbs * D')).length≤59:=Nat.le_trans (dig_mul_len (Nat.le_of_eq h.num.lenN) (Nat.le_of_eq k.dn.lenN)) (by omega)
  have hm2:(dig (x'.natAbs * D)).length≤59:=Nat.le_trans (dig_mul_len (Nat.le_of_eq k.num.lenN) (Nat.le_of_eq h.dn.lenN)) (by omega)
  have hlD:(dig (D * D')).length≤1048570:=Nat.le_trans (dig_mul_len (Nat.le_of_eq h.dn.lenN) (Nat.le_of_eq k.dn.lenN)) (by omega)
  have hlz:(dig (x * (D':Int)+x' * (D:Int)).natAbs).length≤1048570:=by
    have e1:(dig (x * (D':Int)).natAbs).length≤59:=by rw[Int.natAbs_mul,Int.natAbs_natCast];exact hm1
    have e2:(dig (x' * (D:Int)).natAbs).length≤59:=by rw[Int.natAbs_mul,Int.natAbs_natCast];exact hm2
    exact Nat.le_trans (add_len e1 e2) (by omega)
  have hDD:0 < D * D':=Nat.mul_pos hD hD'
  go_enter Tryz.func125,Tryz.ntmps125
  go_upto_region 1 with (fail)
  refine wp_gen (fun W=> Bl w W∧Blk W (w.heap.size) 31 #[.bool s,.slice A n c,.slice B m d]∧Blk W (w.heap.size+1) 31 #[.bool s',.slice A' n' c',.slice B' m' d']∧Wk 3 31 (w.heap.size+1+1) W) ⟨slc,bts,bts,bts⟩ ?_
  rintro W ⟨hbW,hx,hx',hr⟩
  go_cut [16] (fun s16 wx=> s16=.bool false∧Bl W wx)
  case first =>
    obtain⟨i0,i1,i2⟩:=bx3 hx
    obtain⟨j0,j1,j2⟩:=bx3 hx'
    by_cases h1:D=1
    · have h2:=Lib.hid (fun h2:D'=1=> h12 ⟨h1,h2⟩)
      have h1:=Lib.hid h1;rename_i h_;clear h_
      clear h12
      go_wp2_with fail
      refine(l04One_yes _ (h1.out ▸ RdI.bl h.dn hbW)).mono ?_
      rintro e w1 ⟨rfl,q1,rfl⟩
      have hb1:Bl W (W.drewN q1):=(Bl.refl W).drewN q1
      obtain⟨i0,i1,i2⟩:=bx3 (hx.bl hb1)
      obtain⟨j0,j1,j2⟩:=bx3 (hx'.bl hb1)
      go_wp2_with fail
      refine(l04One_no _ (RdI.bl k.dn (hbW.next hb1)) h2.out).mono ?_
      rintro e w2 ⟨rfl,q2,rfl⟩
      have hb2:=hb1.drewN q2
      go_wp2_with fail
      go_meet
      exact⟨rfl,(Bl.refl W).drewN _⟩
    · have h1:=Lib.hid h1;rename_i h_;clear h_
      clear h12
      go_wp2_with fail
      refine(l04One_no _ (RdI.bl h.dn hbW) h1.out).mono ?_
      rintro e w1 ⟨rfl,q1,rfl⟩
      have hb1:Bl W (W.drewN q1):=(Bl.refl W).drewN q1
      go_wp2_with fail
      go_meet
      exact⟨rfl,hb1⟩
  case rest =>
    obtain⟨rfl,hb1⟩:=hcut
    obtain⟨W1,rfl⟩:∃ W1:World,W1=wc:=⟨_,rfl⟩
    have hx:=hx.bl hb1
    have hx':=hx'.bl hb1
    have hr:=hr.bl hb1
    have hbW:=hbW.next hb1
    clear hb1 h12
    have hz1:=hr.lt
    go_wp2_with fail
    go_cut [6] (fun s6 wx=> ∃ (g6:Nat) (s5:Bool) (A5:Option Addr) (n5 c5:Nat),s6=.pointer (some ⟨g6,0,none⟩)∧Blk wx g6 29 #[.bool s5,.slice A5 n5 c5]∧OwB 3 (w.heap.size+1+1+1) wx s5 A5 n5 c5 (x * (D':Int))∧n5≤59∧Bl w wx∧Bl W1 wx)
    case first =>
      go_region_held3 (fun w' =>(w'.cell? ⟨w.heap.size,0,none⟩=some (.bool s)∧w'.cell? ⟨w.heap.size,1,none⟩=some (.slice A n c)∧w'.cell? ⟨w.heap.size,2,none⟩=some (.slice B m d))∧(w'.cell? ⟨w.heap.size+1,0,none⟩=some (.bool s')∧w'.cell? ⟨w.heap.size+1,1,none⟩=some (.slice A' n' c')∧w'.cell? ⟨w.heap.size+1,2,none⟩=some (.slice B' m' d'))) (first | exact⟨bx3 (T:=31) bts,bx3 (T:=31) bts⟩) (first |(go_at_call 88;refine(l02Mul_any _ (h.num.bl slc) (k.dn.bl slc) (by omega) (by omega)).mono ?_;rintro e w4 ⟨A4,n4,c4,rfl,hO4,hb4⟩;(have hz4:w.heap.size+1+1 < w4.heap.size:=Wk.lt (k:=3) (T:=31) bts);(first | have hy4:W1.heap.size+1≤w4.heap.size:=(by have:=Bl.size hb4;first | omega |(simp at this;omega)) | have hy4:W1.heap.size≤w4.heap.size:=(by have:=Bl.size hb4;first | omega |(simp at this;omega)));(first | have hq:Wk 2 29 _ _:=wk_newd hb4 | have hq:Wk 2 29 _ _:=wk_new hb4 | have hq:=Wk.bl hq hb4 | skip);(have hl4:n4≤59:=by rw[← hO4.rd.lenN];exact hm1)) |(go_at_call 95;refine(l03Make_any _ _ (RdI.bl hO4.rd slc) (by omega)).mono ?_;rintro e w5 ⟨s5,A5,n5,c5,rfl,hs5,hO5,hb5⟩;(have hz5:w.heap.size+1+1 < w5.heap.size:=Wk.lt (k:=3) (T:=31) bts);(first | have hy5:w4.heap.size+1≤w5.heap.size:=(by have:=Bl.size hb5;first | omega |(simp at this;omega)) | have hy5:w4.heap.size≤w5.heap.size:=(by have:=Bl.size hb5;first | omega |(simp at this;omega)));(first | have hq:Wk 2 29 _ _:=wk_newd hb5 | have hq:Wk 2 29 _ _:=wk_new hb5 | have hq:=Wk.bl hq hb5 | skip);(have hl5:n5≤59:=by rw[← hO5.rd.lenN];exact hm1);(try obtain⟨⟨y0,y1⟩,y2,y3⟩:=hq.out2)))
      · skip
        have hOa5:OwB 3 _ w5 s5 A5 n5 c5 (x * (D':Int)):=⟨by rw[hs5.out];exact mk_sign h.sgn hD',by rw[Int.natAbs_mul,Int.natAbs_natCast];exact hO5⟩
        go_wp2_with fail
        go_meet
        exact⟨w5.heap.size,s5,A5,n5,c5,rfl,Blk.new _ _ _,(hOa5.bl slc).mono (by first | omega |(simp;omega) |(simp;done)),hl5,slc,slc⟩
      · skip
        have hOa5:OwB 3 _ w5 s5 A5 n5 c5 (x * (D':Int)):=⟨by rw[hs5.out];exact mk_sign h.sgn hD',by rw[Int.natAbs_mul,Int.natAbs_natCast];exact hO5⟩
        go_wp2_with fail
        go_meet
        exact⟨w4.heap.size,s5,A5,n5,c5,rfl,Wk.put2 hq _ _,((hOa5.far (by have:=hy4;have:=hy5;first | omega |(simp;omega) |(simp;done)) _).far (by have:=hy4;have:=hy5;first | omega |(simp;omega) |(simp;done)) _).mono (by first | omega |(simp;omega) |(simp;done)),hl5,slc,slc⟩
      · skip
        have hOa5:OwB 3 _ w5 s5 A5 n5 c5 (x * (D':Int)):=⟨by rw[hs5.out];exact mk_sign h.sgn hD',by rw[Int.natAbs_mul,Int.natAbs_natCast];exact hO5⟩
        go_wp2_with fail
        go_meet
        exact⟨W1.heap.size,s5,A5,n5,c5,rfl,Wk.put2 hq _ _,((hOa5.far (by have:=hy4;have:=hy5;first | omega |(simp;omega) |(simp;done)) _).far (by have:=hy4;have:=hy5;first | omega |(simp;omega) |(simp;done)) _).mono (by first | omega |(simp;omega) |(simp;done)),hl5,slc,slc⟩
    case rest =>
      obtain⟨g6,s5,A5,n5,c5,rfl,hN,hOa,hl5,hb2,hb12⟩:=hcut
      obtain⟨W2,rfl⟩:∃ W2:World,W2=wc:=⟨_,rfl⟩
      have hx:=hx.bl hb12
      have hx':=hx'.bl hb12
      have hr:=hr.bl hb12
      clear hb12 hbW
      have hzW2:=hr.lt
      have hzN:=hN.lt
      go_upto_region 5 with (fail)
      go_cut [7] (fun s7 wx=> ∃ (g7:Nat) (s7':Bool) (A7:Option Addr) (n7 c7:Nat),s7=.pointer (some ⟨g7,0,none⟩)∧Blk wx g7 29 #[.bool s7',.slice A7 n7 c7]∧OwB 3 (w.heap.size+1+1+1) wx s7' A7 n7 c7 (x' * (D:Int))∧n7≤59∧Bl w wx∧Bl W2 wx)
      case first =>
        go_region_held3 (fun w' =>(w'.cell? ⟨w.heap.size,0,none⟩=some (.bool s)∧w'.cell? ⟨w.heap.size,1,none⟩=some (.slice A n c)∧w'.cell? ⟨w.heap.size,2,none⟩=some (.slice B m d))∧(w'.cell? ⟨w.heap.size+1,0,none⟩=some (.bool s')∧w'.cell? ⟨w.heap.size+1,1,none⟩=some (.slice A' n' c')∧w'.cell? ⟨w.heap.size+1,2,none⟩=some (.slice B' m' d'))) (first | exact⟨bx3 (T:=31) bts,bx3 (T:=31) bts⟩) (first |(go_at_call 88;refine(l02Mul_any _ (k.num.bl slc) (h.dn.bl slc) (by omega) (by omega)).mono ?_;rintro e w6 ⟨A6,n6,c6,rfl,hO6,hb6⟩;(have hz6:w.heap.size+1+1 < w6.heap.size:=Wk.lt (k:=3) (T:=31) bts);(first | have hy6:W2.heap.size+1≤w6.heap.size:=(by have:=Bl.size hb6;first | omega |(simp at this;omega)) | have hy6:W2.heap.size≤w6.heap.size:=(by have:=Bl.size hb6;first | omega |(simp at this;omega)));(first | have hq:Wk 2 29 _ _:=wk_newd hb6 | have hq:Wk 2 29 _ _:=wk_new hb6 | have hq:=Wk.bl hq hb6 | skip);(have hl6:n6≤59:=by rw[← hO6.rd.lenN];exact hm2)) |(go_at_call 95;refine(l03Make_any _ _ (RdI.bl hO6.rd slc) (by omega)).mono ?_;rintro e w7 ⟨s7,A7,n7,c7,rfl,hs7,hO7,hb7⟩;(have hz7:w.heap.size+1+1 < w7.heap.size:=Wk.lt (k:=3) (T:=31) bts);(first | have hy7:w6.heap.size+1≤w7.heap.size:=(by have:=Bl.size hb7;first | omega |(simp at this;omega)) | have hy7:w6.heap.size≤w7.heap.size:=(by have:=Bl.size hb7;first | omega |(simp at this;omega)));(first | have hq:Wk 2 29 _ _:=wk_newd hb7 | have hq:Wk 2 29 _ _:=wk_new hb7 | have hq:=Wk.bl hq hb7 | skip);(have hl7:n7≤59:=by rw[← hO7.rd.lenN];exact hm2);(try obtain⟨⟨y0,y1⟩,y2,y3⟩:=hq.out2)))
        · skip
          have hOb7:OwB 3 _ w7 s7 A7 n7 c7 (x' * (D:Int)):=⟨by rw[hs7.out];exact mk_sign k.sgn hD,by rw[Int.natAbs_mul,Int.natAbs_natCast];exact hO7⟩
          go_wp2_with fail
          go_meet
          exact⟨w7.heap.size,s7,A7,n7,c7,rfl,Blk.new _ _ _,(hOb7.bl slc).mono (by first | omega |(simp;omega) |(simp;done)),hl7,slc,slc⟩
        · skip
          have hOb7:OwB 3 _ w7 s7 A7 n7 c7 (x' * (D:Int)):=⟨by rw[hs7.out];exact mk_sign k.sgn hD,by rw[Int.natAbs_mul,Int.natAbs_natCast];exact hO7⟩
          go_wp2_with fail
          go_meet
          exact⟨w6.heap.size,s7,A7,n7,c7,rfl,Wk.put2 hq _ _,((hOb7.far (by have:=hy6;have:=hy7;first | omega |(simp;omega) |(simp;done)) _).far (by have:=hy6;have:=hy7;first | omega |(simp;omega) |(simp;done)) _).mono (by first | omega |(simp;omega) |(simp;done)),hl7,slc,slc⟩
        · skip
          have hOb7:OwB 3 _ w7 s7 A7 n7 c7 (x' * (D:Int)):=⟨by rw[hs7.out];exact mk_sign k.sgn hD,by rw[Int.natAbs_mul,Int.natAbs_natCast];exact hO7⟩
          go_wp2_with fail
          go_meet
          exact⟨W2.heap.size,s7,A7,n7,c7,rfl,Wk.put2 hq _ _,((hOb7.far (by have:=hy6;have:=hy7;first | omega |(simp;omega) |(simp;done)) _).far (by have:=hy6;have:=hy7;first | omega |(simp;omega) |(simp;done)) _).mono (by first | omega |(simp;omega) |(simp;done)),hl7,slc,slc⟩
      case rest =>
        obtain⟨g7,s7,A7,n7,c7,rfl,hN',hOb,hl7,hb3,hb23⟩:=hcut
        obtain⟨W3,rfl⟩:∃ W3:World,W3=wc:=⟨_,rfl⟩
        have hx:=hx.bl hb23
        have hx':=hx'.bl hb23
        have hr:=hr.bl hb23
        have hN:=hN.bl hb23
        have hOa:=hOa.bl hb23
        clear hb23 hb2
        go_upto_region 6 with (fail)
        obtain⟨i0,i1⟩:=bx2 hN
        obtain⟨j0,j1⟩:=bx2 hN'
        go_wp2_with fail
        refine(l03Add_any _ hOa.rd hOb.rd (by omega) (by omega)).mono ?_
        rintro e w8 ⟨s8,A8,n8,c8,rfl,hO8,hb8⟩
        have hr8:=hr.bl hb8
        have hz8:w.heap.size+1+1 < w8.heap.size:=hr8.lt
        have hx8:=hx.bl hb8
        have hx8':=hx'.bl hb8
        have hb9:=hb3.next hb8
        have hO8:=hO8.mono (show w.heap.size+1+1+1≤W3.heap.size from hr.lt)
        have hl8:n8≤1048570:=by rw[← hO8.len];exact hlz
        clear i0 i1 j0 j1 hx hx' hr hb3 hOa hOb hN hN' hb8
        go_wp2_with fail
        refine wp_gen (fun W4=> Bl w W4∧Blk W4 w8.heap.size 29 #[.bool s8,.slice A8 n8 c8]∧Blk W4 (w.heap.size) 31 #[.bool s,.slice A n c,.slice B m d]∧Blk W4 (w.heap.size+1) 31 #[.bool s',.slice A' n' c',.slice B' m' d']∧Wk 3 31 (w.heap.size+1+1) W4∧OwB 3 (w.heap.size+1+1+1) W4 s8 A8 n8 c8 (x * (D':Int)+x' * (D:Int))) ⟨slc,Blk.new _ _ _,hx8.alloc _,hx8'.alloc _,hr8.alloc _,hO8.bl slc⟩ ?_
        rintro W4 ⟨hbW,hN,hx,hx',hr,hO⟩
        go_region_held3 (fun w' =>(w'.cell? ⟨w8.heap.size,0,none⟩=some (.bool s8)∧w'.cell? ⟨w8.heap.size,1,none⟩=some (.slice A8 n8 c8))∧(w'.cell? ⟨w.heap.size,0,none⟩=some (.bool s)∧w'.cell? ⟨w.heap.size,1,none⟩=some (.slice A n c)∧w'.cell? ⟨w.heap.size,2,none⟩=some (.slice B m d))∧(w'.cell? ⟨w.heap.size+1,0,none⟩=some (.bool s')∧w'.cell? ⟨w.heap.size+1,1,none⟩=some (.slice A' n' c')∧w'.cell? ⟨w.heap.size+1,2,none⟩=some (.slice B' m' d'))∧(w'.cell? ⟨w.heap.size+1+1,0,none⟩=some (cellD w' (w.heap.size+1+1) 0)∧w'.cell? ⟨w.heap.size+1+1,1,none⟩=some (cellD w' (w.heap.size+1+1) 1)∧w'.cell? ⟨w.heap.size+1+1,2,none⟩=some (cellD w' (w.heap.size+1+1) 2))∧w'.frozen? ⟨w.heap.size+1+1,0,none⟩=false∧w'.frozen? ⟨w.heap.size+1+1,1,none⟩=false∧w'.frozen? ⟨w.heap.size+1+1,2,none⟩=false) (first | exact⟨bx2 (T:=29) bts,bx3 (T:=31) bts,bx3 (T:=31) bts,Wk.out3 (T:=31) bts⟩) (first |(go_at_call 88;refine(l02Mul_any _ (h.dn.bl slc) (k.dn.bl slc) (by omega) (by omega)).mono ?_;rintro e w9 ⟨A9,n9,c9,rfl,hO9,hb9⟩;(have hl9:n9≤1048570:=by rw[← hO9.rd.lenN];exact hlD);(have hO10:=hO.rd.mg.bl (Bl.next (Bl.drew (Bl.refl _)) hb9))) |(go_at_call 87;refine(l04Low_any _ s8 hO10 hO9.rd hl8 hl9).mono ?_;rintro e w10 ⟨s1,A1,n1,c1,B1,m1,d1,rfl,hR,hb10⟩))
        have hz9:W4.heap.size≤w9.heap.size:=(Bl.size hb9:W4.drew.heap.size≤_)
        have hzr:w.heap.size+1+1+1≤W4.heap.size:=hr.lt
        have hr:=(show Wk 3 31 (w.heap.size+1+1) w10 from bts)
        have hbW:Bl w w10:=slc
        rw[lowS_self hDD hO.1] at hR
        have hR:=hR.mono (show w.heap.size+1+1+1≤w9.heap.size by omega)
        obtain⟨v0,x0⟩:=hr.val_ (i:=0) (by omega)
        obtain⟨v1,x1⟩:=hr.val_ (i:=1) (by omega)
        obtain⟨v2,x2⟩:=hr.val_ (i:=2) (by omega)
        have hg:=hr.lt
        obtain⟨cs4,hB4,hc4⟩:=hr
        have hf0:=hB4.frozen 0
        have hf1:=hB4.frozen 1
        have hf2:=hB4.frozen 2
        go_wp2_with fail
        exact bodyPost_ret (v:=.agg #[.bool s1,.slice A1 n1 c1,.slice B1 m1 d1]) (by simp[results,Tryz.results125,go_sem,x0,x1,x2]) rfl ⟨_,_,_,_,_,_,_,rfl,(((hR.far (by simp) _).far (by simp) _).far (by simp) _).mono (by omega),slc⟩
end

section
open Go.RowKit

theorem l04Add_any (w:World) {s:Bool}{A:Option Addr}{n c:Nat}{B:Option Addr}{m d:Nat}{x:Int}{D:Nat}{s':Bool}{A':Option Addr}{n' c':Nat}{B':Option Addr}{m' d':Nat}{x':Int}{D':Nat}(h:IsR w s A n c B m d x D) (k:IsR w s' A' n' c' B' m' d' x' D') (hn:n≤24) (hm:m≤24) (hn':n'≤24) (hm':m'≤24) (hD:0 < D) (hD':0 < D') :
    Calls Tryz.prog 125 #[.agg #[.bool s,.slice A n c,.slice B m d],.agg #[.bool s',.slice A' n' c',.slice B' m' d']] w fun e w'=> ∃ s1 A1 n1 c1 B1 m1 d1,e=.returned (.agg #[.bool s1,.slice A1 n1 c1,.slice B1 m1 d1])∧OwR 3 w.heap.size w' s1 A1 n1 c1 B1 m1 d1 (ofFrac (x * D'+x' * D) (D * D'))∧Bl w w':=by
  by_cases h12:D=1∧D'=1
  · exact l04Add_ints w h k hn hn' h12.1 h12.2
  · exact l04Add_nn w h k hn hm hn' hm' hD hD' h12

set_option maxRecDepth 100000 in
set_option maxHeartbeats 4000000 in
theorem sRatSub_any (w:World) {s:Bool}{A:Option Addr}{n c:Nat}{B:Option Addr}{m d:Nat}{r:RatD}{s':Bool}{A':Option Addr}{n' c':Nat}{B':Option Addr}{m' d':Nat}{r':RatD}(h:RdR w s A n c B m d r) (k:RdR w s' A' n' c' B' m' d' r') :
    Calls Tryz.prog 84 #[.agg #[.bool s,.slice A n c,.slice B m d],.agg #[.bool s',.slice A' n' c',.slice B' m' d']] w fun e w'=> ∃ s1 A1 n1 c1 B1 m1 d1,e=.returned (.agg #[.bool s1,.slice A1 n1 c1,.slice B1 m1 d1])∧OwR 3 w.heap.size w' s1 A1 n1 c1 B1 m1 d1 (subR r r')∧Bl w w':=by
  by_cases ho:OkR r
  · have hok:=okR_of ho
    by_cases ho':OkR r'
    · have hok':=okR_of ho'
      have hI:=IsR.out h ho
      have hI':=IsR.out k ho'
      have hL:=OkR.lens h ho
      have hL':=OkR.lens k ho'
      have hval:=Lib.hid (show subR r r'=ofFrac (rn r * rd r' - rn r' * rd r) (rd r * rd r') by unfold subR;rw[if_pos ⟨ho,ho'⟩])
      clear ho ho'
      go_enter Tryz.func84,Tryz.ntmps84
      go_wp2_with fail
      refine calls_gen (fun W=> Bl w W∧Blk W (w.heap.size) 31 #[.bool s,.slice A n c,.slice B m d]∧Blk W (w.heap.size+1) 31 #[.bool s',.slice A' n' c',.slice B' m' d']∧Wk 3 31 (w.heap.size+1+1) W) ⟨slc,bts,bts,bts⟩ ?_
      rintro W ⟨hbW,hx,hx',hr⟩
      refine(sRatOk_any _ (h.bl hbW)).mono ?_
      rw[hok]
      rintro e w1 ⟨rfl,hb1⟩
      have hx:=hx.bl hb1
      have hx':=hx'.bl hb1
      have hr:=hr.bl hb1
      have hbW:=hbW.next hb1
      clear hb1
      obtain⟨i0,i1,i2⟩:=bx3 hx
      obtain⟨j0,j1,j2⟩:=bx3 hx'
      go_wp2_with fail
      refine(sRatOk_any _ (k.bl hbW)).mono ?_
      rw[hok']
      rintro e w2 ⟨rfl,hb2⟩
      have hx:=hx.bl hb2
      have hx':=hx'.bl hb2
      have hr:=hr.bl hb2
      have hbW:=hbW.next hb2
      clear hb2
      obtain⟨i0,i1,i2⟩:=bx3 hx
      obtain⟨j0,j1,j2⟩:=bx3 hx'
      go_wp2_with fail
      have hz2:=hr.lt
      go_region_held3 (fun w' =>(w'.cell? ⟨w.heap.size,0,none⟩=some (.bool s)∧w'.cell? ⟨w.heap.size,1,none⟩=some (.slice A n c)∧w'.cell? ⟨w.heap.size,2,none⟩=some (.slice B m d))∧(w'.cell? ⟨w.heap.size+1,0,none⟩=some (.bool s')∧w'.cell? ⟨w.heap.size+1,1,none⟩=some (.slice A' n' c')∧w'.cell? ⟨w.heap.size+1,2,none⟩=some (.slice B' m' d'))∧(w'.cell? ⟨w.heap.size+1+1,0,none⟩=some (cellD w' (w.heap.size+1+1) 0)∧w'.cell? ⟨w.heap.size+1+1,1,none⟩=some (cellD w' (w.heap.size+1+1) 1)∧w'.cell? ⟨w.heap.size+1+1,2,none⟩=some (cellD w' (w.heap.size+1+1) 2))∧w'.frozen? ⟨w.heap.size+1+1,0,none⟩=false∧w'.frozen? ⟨w.heap.size+1+1,1,none⟩=false∧w'.frozen? ⟨w.heap.size+1+1,2,none⟩=false) (first | exact⟨bx3 (T:=31) bts,bx3 (T:=31) bts,Wk.out3 (T:=31) bts⟩) (first |(go_at_call 126;refine(l04Neg_any _ (RdR.bl hI' slc) (by omega) (by omega)).mono ?_;rintro e w3 ⟨s3,A3,n3,c3,B3,m3,d3,rfl,hN,hb3⟩;(have hl3:n3≤24:=by rw[← hN.num.lenN,Int.natAbs_neg,hI'.num.lenN];omega);(have hl4:m3≤24:=by rw[← hN.dn.lenN,hI'.dn.lenN];omega)) |(go_at_call 125;refine(l04Add_any _ (RdR.bl hI slc) hN (by omega) (by omega) hl3 hl4 hL.2.2 hL'.2.2).mono ?_;rintro e w4 ⟨s1,A1,n1,c1,B1,m1,d1,rfl,hR,hb4⟩))
      have hz3:w2.heap.size≤w3.heap.size:=(Bl.size hb3:w2.drew.heap.size≤_)
      have hR:=hR.mono (show w.heap.size+1+1+1≤w3.heap.size from Nat.le_trans hz2 hz3)
      rw[show rn r * rd r'+-rn r' * rd r=rn r * rd r' - rn r' * rd r by rw[Int.neg_mul];omega,← hval.out] at hR
      have hr:=(show Wk 3 31 (w.heap.size+1+1) w4 from bts)
      have hbW:Bl w w4:=slc
      obtain⟨v0,x0⟩:=hr.val_ (i:=0) (by omega)
      obtain⟨v1,x1⟩:=hr.val_ (i:=1) (by omega)
      obtain⟨v2,x2⟩:=hr.val_ (i:=2) (by omega)
      have hg:=hr.lt
      obtain⟨cs4,hB4,hc4⟩:=hr
      have hf0:=hB4.frozen 0
      have hf1:=hB4.frozen 1
      have hf2:=hB4.frozen 2
      go_wp2_with fail
      exact bodyPost_ret (v:=.agg #[.bool s1,.slice A1 n1 c1,.slice B1 m1 d1]) (by simp[results,Tryz.results84,go_sem,x0,x1,x2]) rfl ⟨_,_,_,_,_,_,_,rfl,(((hR.far (by simp) _).far (by simp) _).far (by simp) _).mono (by omega),slc⟩
    · have hok':=okR_no ho'
      have hval:=Lib.hid (show subR r r'=zR by unfold subR;rw[if_neg (fun hk=> ho' hk.2)])
      have ho':=Lib.hid ho';rename_i h_;clear h_
      clear ho
      go_enter Tryz.func84,Tryz.ntmps84
      go_wp2_with fail
      refine calls_gen (fun W=> Bl w W∧Blk W (w.heap.size) 31 #[.bool s,.slice A n c,.slice B m d]∧Blk W (w.heap.size+1) 31 #[.bool s',.slice A' n' c',.slice B' m' d']∧Wk 3 31 (w.heap.size+1+1) W) ⟨slc,bts,bts,bts⟩ ?_
      rintro W ⟨hbW,hx,hx',hr⟩
      refine(sRatOk_any _ (h.bl hbW)).mono ?_
      rw[hok]
      rintro e w1 ⟨rfl,hb1⟩
      have hx:=hx.bl hb1
      have hx':=hx'.bl hb1
      have hr:=hr.bl hb1
      have hbW:=hbW.next hb1
      clear hb1
      obtain⟨i0,i1,i2⟩:=bx3 hx
      obtain⟨j0,j1,j2⟩:=bx3 hx'
      go_wp2_with fail
      refine(sRatOk_any _ (k.bl hbW)).mono ?_
      rw[hok']
      rintro e w2 ⟨rfl,hb2⟩
      have hx:=hx.bl hb2
      have hx':=hx'.bl hb2
      have hr:=hr.bl hb2
      have hbW:=hbW.next hb2
      clear hb2
      obtain⟨i0,i1,i2⟩:=bx3 hx
      obtain⟨j0,j1,j2⟩:=bx3 hx'
      obtain⟨v0,x0⟩:=hr.val_ (i:=0) (by omega)
      obtain⟨v1,x1⟩:=hr.val_ (i:=1) (by omega)
      obtain⟨v2,x2⟩:=hr.val_ (i:=2) (by omega)
      have hg:=hr.lt
      obtain⟨cs4,hB4,hc4⟩:=hr
      have hf0:=hB4.frozen 0
      have hf1:=hB4.frozen 1
      have hf2:=hB4.frozen 2
      go_wp2_with fail
      exact bodyPost_ret (v:=.agg #[.bool false,.slice none 0 0,.slice none 0 0]) (by simp[results,Tryz.results84,go_sem,x0,x1,x2]) rfl ⟨_,_,_,_,_,_,_,rfl,by rw[hval.out];exact OwR.zero _ _ _,slc⟩
  · have hok:=okR_no ho
    have hval:=Lib.hid (show subR r r'=zR by unfold subR;rw[if_neg (fun hk=> ho hk.1)])
    have ho:=Lib.hid ho;rename_i h_;clear h_
    go_enter Tryz.func84,Tryz.ntmps84
    go_wp2_with fail
    refine calls_gen (fun W=> Bl w W∧Blk W (w.heap.size) 31 #[.bool s,.slice A n c,.slice B m d]∧Blk W (w.heap.size+1) 31 #[.bool s',.slice A' n' c',.slice B' m' d']∧Wk 3 31 (w.heap.size+1+1) W) ⟨slc,bts,bts,bts⟩ ?_
    rintro W ⟨hbW,hx,hx',hr⟩
    refine(sRatOk_any _ (h.bl hbW)).mono ?_
    rw[hok]
    rintro e w1 ⟨rfl,hb1⟩
    have hx:=hx.bl hb1
    have hx':=hx'.bl hb1
    have hr:=hr.bl hb1
    have hbW:=hbW.next hb1
    clear hb1
    obtain⟨i0,i1,i2⟩:=bx3 hx
    obtain⟨j0,j1,j2⟩:=bx3 hx'
    obtain⟨v0,x0⟩:=hr.val_ (i:=0) (by omega)
    obtain⟨v1,x1⟩:=hr.val_ (i:=1) (by omega)
    obtain⟨v2,x2⟩:=hr.val_ (i:=2) (by omega)
    have hg:=hr.lt
    obtain⟨cs4,hB4,hc4⟩:=hr
    have hf0:=hB4.frozen 0
    have hf1:=hB4.frozen 1
    have hf2:=hB4.frozen 2
    go_wp2_with fail
    exact bodyPost_ret (v:=.agg #[.bool false,.slice none 0 0,.slice none 0 0]) (by simp[results,Tryz.results84,go_sem,x0,x1,x2]) rfl ⟨_,_,_,_,_,_,_,rfl,by rw[hval.out];exact OwR.zero _ _ _,slc⟩
end

end Go.Proofs.YtjaapemopbbfaaaGreat
