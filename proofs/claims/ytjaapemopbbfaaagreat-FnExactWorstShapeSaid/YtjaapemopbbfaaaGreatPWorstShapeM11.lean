/- Lemmas. -/
import Derived.Test.YtjaapemopbbfaaaGreatRows
import Derived.Test.YtjaapemopbbfaaaGreatPWorstShapeM10
namespace Go.Proofs.YtjaapemopbbfaaaGreat
section
open Go.RowKit

set_option maxRecDepth 100000 in
set_option maxHeartbeats 4000000 in
theorem negative_any (w:World) {s:Bool}{A:Option Addr}{n c:Nat}{B:Option Addr}{m d:Nat}{x:Int}{D:Nat}(h:IsR w s A n c B m d x D) :
    Calls Tryz.prog 144 #[.agg #[.bool s,.slice A n c,.slice B m d]] w fun e w'=> ∃ s1,e=.returned (.agg #[.bool s1,.slice A n c,.slice B m d])∧IsR w' s1 A n c B m d (-x) D∧Bl w w':=by
  have hs:=Lib.hid h.sgn
  go_enter Tryz.func144,Tryz.ntmps144
  go_wp2_with fail
  refine wp_gen (fun W=> Bl w W∧Blk W (w.heap.size) 31 #[.bool s,.slice A n c,.slice B m d]∧Wk 3 31 (w.heap.size+1) W) ⟨slc,bts,bts⟩ ?_
  rintro W ⟨hbW,hx,hr⟩
  go_region_held3 (fun w' =>(w'.cell? ⟨w.heap.size,0,none⟩=some (.bool s)∧w'.cell? ⟨w.heap.size,1,none⟩=some (.slice A n c)∧w'.cell? ⟨w.heap.size,2,none⟩=some (.slice B m d))∧(w'.cell? ⟨w.heap.size+1,0,none⟩=some (cellD w' (w.heap.size+1) 0)∧w'.cell? ⟨w.heap.size+1,1,none⟩=some (cellD w' (w.heap.size+1) 1)∧w'.cell? ⟨w.heap.size+1,2,none⟩=some (cellD w' (w.heap.size+1) 2))∧w'.frozen? ⟨w.heap.size+1,0,none⟩=false∧w'.frozen? ⟨w.heap.size+1,1,none⟩=false∧w'.frozen? ⟨w.heap.size+1,2,none⟩=false) (first | exact⟨bx3 (T:=31) bts,Wk.out3 (T:=31) bts⟩) (first |(go_at_call 154;refine(signed_any _ _ (h.num.bl slc)).mono ?_;rintro e w4 ⟨s1,rfl,hs1,hb4⟩))
  have hr:=(show Wk 3 31 (w.heap.size+1) w4 from bts)
  have hbW:Bl w w4:=slc
  obtain⟨v0,x0⟩:=hr.val_ (i:=0) (by omega)
  obtain⟨v1,x1⟩:=hr.val_ (i:=1) (by omega)
  obtain⟨v2,x2⟩:=hr.val_ (i:=2) (by omega)
  have hg:=hr.lt
  obtain⟨cs4,hB4,hc4⟩:=hr
  have hf0:=hB4.frozen 0
  have hf1:=hB4.frozen 1
  have hf2:=hB4.frozen 2
  go_wp2_with fail
  refine bodyPost_ret (v:=.agg #[.bool s1,.slice A n c,.slice B m d]) (by simp[results,Tryz.results144,go_sem,x0,x1,x2]) rfl ⟨_,rfl,⟨?_,?_,?_⟩,slc⟩
  · rw[hs1.out]
    refine signed_neg (x:=-x) (by omega) fun h0=> ?_
    rw[hs.out]
    by_cases hx0:x < 0
    · simp[hx0];omega
    · simp[hx0];omega
  · show RdI _ A n c (ints (dig (-x).natAbs))
    rw[Int.natAbs_neg]
    exact h.num.bl slc
  · exact h.dn.bl slc
set_option maxHeartbeats 1600000 in
theorem sign_any (w:World) {s:Bool}{A:Option Addr}{n c:Nat}{B:Option Addr}{m d:Nat}{x:Int}{D:Nat}(h:IsR w s A n c B m d x D) :
    Calls Tryz.prog 139 #[.agg #[.bool s,.slice A n c,.slice B m d]] w fun e w'=> e=.returned (.int .i64 (cmpZ x 0))∧Bl w w':=by
  have hl:=h.num.lenN
  have hs:=h.sgn
  rcases Nat.eq_zero_or_pos n with h0 | h0
  · have hx:cmpZ x 0=0:=by
      have:=dig_nil.1 (List.length_eq_zero_iff.1 (hl.trans h0))
      unfold cmpZ
      rw[if_neg (by omega),if_neg (by omega)]
    rw[hx]
    subst h0
    clear hx hl hs
    go_enter Tryz.func139,Tryz.ntmps139
    go_wp2_with fail
    go_ret
    exact⟨rfl,slc⟩
  · have hne:((n:Int) == 0)=false:=by simp;omega
    have hpos:0 < x.natAbs:=dig_len_pos.1 (by omega)
    rcases Int.lt_or_le x 0 with hx | hx
    · have hc:cmpZ x 0=-1:=by unfold cmpZ;rw[if_pos hx]
      rw[hc]
      obtain rfl:s=true:=by rw[hs];simp[hx]
      clear hc hl hs hpos h0
      go_enter Tryz.func139,Tryz.ntmps139
      go_wp2_with fail
      go_ret
      exact⟨rfl,slc⟩
    · have hc:cmpZ x 0=1:=by unfold cmpZ;rw[if_neg (by omega),if_pos (by omega)]
      rw[hc]
      obtain rfl:s=false:=by rw[hs];simp;omega
      clear hc hl hs hpos h0
      go_enter Tryz.func139,Tryz.ntmps139
      go_wp2_with fail
      go_ret
      exact⟨rfl,slc⟩
theorem RatSign_any (w:World) {s:Bool}{A:Option Addr}{n c:Nat}{B:Option Addr}{m d:Nat}{r:RatD}(h:RdR w s A n c B m d r) :
    Calls Tryz.prog 108 #[.agg #[.bool s,.slice A n c,.slice B m d]] w fun e w'=> e=.returned (.int .i64 (sgnR r))∧Bl w w':=by
  by_cases ho:OkR r
  · have hok:=okR_of ho
    have hv:sgnR r=cmpZ (rn r) 0:=by unfold sgnR;rw[if_pos ho]
    rw[hv]
    have hI:=IsR.out h ho
    clear hv ho
    go_enter Tryz.func108,Tryz.ntmps108
    go_wp2_with fail
    refine(RatOk_any _ (h.alloc _)).mono ?_
    rw[hok]
    rintro e w1 ⟨rfl,hb1⟩
    obtain⟨i0,i1,i2⟩:=box3 hb1
    have hb1:Bl w w1:=slc
    go_wp2_with fail
    refine(sign_any _ (RdR.bl hI hb1)).mono ?_
    rintro e w2 ⟨rfl,hb2⟩
    go_wp2_with fail
    go_ret
    exact⟨rfl,slc⟩
  · have hok:=okR_no ho
    have hv:sgnR r=0:=by unfold sgnR;rw[if_neg ho]
    rw[hv]
    clear hv
    have ho:=Lib.hid ho;rename_i h_;clear h_
    go_enter Tryz.func108,Tryz.ntmps108
    go_wp2_with fail
    refine(RatOk_any _ (h.alloc _)).mono ?_
    rw[hok]
    rintro e w1 ⟨rfl,hb1⟩
    go_wp2_with fail
    go_ret
    exact⟨rfl,slc⟩

theorem OkR.lens {w:World}{s:Bool}{A:Option Addr}{n c:Nat}{B:Option Addr}{m d:Nat}{r:RatD}(h:RdR w s A n c B m d r) (ho:OkR r):n≤24∧m≤24∧0 < rd r:=by
  have hI:=IsR.out h ho
  have g:=ho.get
  have l1:=hI.num.lenN
  have l2:=hI.dn.lenN
  omega

set_option maxRecDepth 100000 in
set_option maxHeartbeats 4000000 in
theorem RatAdd_any (w:World) {s:Bool}{A:Option Addr}{n c:Nat}{B:Option Addr}{m d:Nat}{r:RatD}{s':Bool}{A':Option Addr}{n' c':Nat}{B':Option Addr}{m' d':Nat}{r':RatD}(h:RdR w s A n c B m d r) (k:RdR w s' A' n' c' B' m' d' r') :
    Calls Tryz.prog 112 #[.agg #[.bool s,.slice A n c,.slice B m d],.agg #[.bool s',.slice A' n' c',.slice B' m' d']] w fun e w'=> ∃ s1 A1 n1 c1 B1 m1 d1,e=.returned (.agg #[.bool s1,.slice A1 n1 c1,.slice B1 m1 d1])∧OwR 3 w.heap.size w' s1 A1 n1 c1 B1 m1 d1 (addR r r')∧Bl w w':=by
  by_cases ho:OkR r∧OkR r'
  · have hall:=Lib.hid (allOk_two.2 ho)
    have hI:=IsR.out h ho.1
    have hI':=IsR.out k ho.2
    have hL:=OkR.lens h ho.1
    have hL':=OkR.lens k ho.2
    have hval:=Lib.hid (show addR r r'=ofFrac (rn r * rd r'+rn r' * rd r) (rd r * rd r') by unfold addR;rw[if_pos ho])
    clear ho
    go_enter Tryz.func112,Tryz.ntmps112
    go_wp2_with fail
    refine calls_gen (fun W=> Bl w W∧Blk W (w.heap.size) 31 #[.bool s,.slice A n c,.slice B m d]∧Blk W (w.heap.size+1) 31 #[.bool s',.slice A' n' c',.slice B' m' d']∧Wk 3 31 (w.heap.size+1+1) W∧Blk W (w.heap.size+1+1+1) 31 #[.bool s,.slice A n c,.slice B m d,.bool s',.slice A' n' c',.slice B' m' d']) ⟨slc,bts,bts,bts,Blk.new3 _ _ _ _ _ _⟩ ?_
    rintro W ⟨hbW,hx,hx',hr,hy⟩
    refine(areRats_yes _ (RdRS.two hy (h.bl hbW) (k.bl hbW)) hall.out).mono ?_
    rintro e w1 ⟨rfl,hb1⟩
    clear hy
    have hx:=hx.bl hb1
    have hx':=hx'.bl hb1
    have hr:=hr.bl hb1
    have hbW:=hbW.next hb1
    clear hb1
    obtain⟨i0,i1,i2⟩:=bx3 hx
    obtain⟨j0,j1,j2⟩:=bx3 hx'
    go_wp2_with fail
    refine(plus_any _ (RdR.bl hI hbW) (RdR.bl hI' hbW) (by omega) (by omega) (by omega) (by omega) hL.2.2 hL'.2.2).mono ?_
    rintro e w2 ⟨s1,A1,n1,c1,B1,m1,d1,rfl,hR,hb2⟩
    have hR:=hR.mono (show w.heap.size+1+1+1≤w1.heap.size from hr.lt)
    rw[← hval.out] at hR
    have hx:=hx.bl hb2
    have hx':=hx'.bl hb2
    have hr:=hr.bl hb2
    have hbW:=hbW.next hb2
    clear hb2
    obtain⟨i0,i1,i2⟩:=bx3 hx
    obtain⟨j0,j1,j2⟩:=bx3 hx'
    obtain⟨v0,x0⟩:=hr.val_ (i:=0) (by omega)
    obtain⟨v1,x1⟩:=hr.val_ (i:=1) (by omega)
    obtain⟨v2,x2⟩:=hr.val_ (i:=2) (by omega)
    have hg:=hr.lt
    obtain⟨cs4,hB4,hc4⟩:=hr
    have hf0:=hB4.frozen 0
    have hf1:=hB4.frozen 1
    have hf2:=hB4.frozen 2
    go_wp2_with fail
    exact bodyPost_ret (v:=.agg #[.bool s1,.slice A1 n1 c1,.slice B1 m1 d1]) (by simp[results,Tryz.results112,go_sem,x0,x1,x2]) rfl ⟨_,_,_,_,_,_,_,rfl,(((hR.far (by simp) _).far (by simp) _).far (by simp) _).mono (by omega),slc⟩
  · have hall:=Lib.hid (fun hk=> ho (allOk_two.1 hk):¬ AllOk [r,r'])
    have hval:=Lib.hid (show addR r r'=zR by unfold addR;rw[if_neg ho])
    have ho:=Lib.hid ho;rename_i h_;clear h_
    go_enter Tryz.func112,Tryz.ntmps112
    go_wp2_with fail
    refine calls_gen (fun W=> Bl w W∧Blk W (w.heap.size) 31 #[.bool s,.slice A n c,.slice B m d]∧Blk W (w.heap.size+1) 31 #[.bool s',.slice A' n' c',.slice B' m' d']∧Wk 3 31 (w.heap.size+1+1) W∧Blk W (w.heap.size+1+1+1) 31 #[.bool s,.slice A n c,.slice B m d,.bool s',.slice A' n' c',.slice B' m' d']) ⟨slc,bts,bts,bts,Blk.new3 _ _ _ _ _ _⟩ ?_
    rintro W ⟨hbW,hx,hx',hr,hy⟩
    refine(areRats_no _ (RdRS.two hy (h.bl hbW) (k.bl hbW)) hall.out).mono ?_
    rintro e w1 ⟨rfl,hb1⟩
    clear hy
    have hx:=hx.bl hb1
    have hx':=hx'.bl hb1
    have hr:=hr.bl hb1
    have hbW:=hbW.next hb1
    clear hb1
    obtain⟨i0,i1,i2⟩:=bx3 hx
    obtain⟨j0,j1,j2⟩:=bx3 hx'
    obtain⟨v0,x0⟩:=hr.val_ (i:=0) (by omega)
    obtain⟨v1,x1⟩:=hr.val_ (i:=1) (by omega)
    obtain⟨v2,x2⟩:=hr.val_ (i:=2) (by omega)
    have hg:=hr.lt
    obtain⟨cs4,hB4,hc4⟩:=hr
    have hf0:=hB4.frozen 0
    have hf1:=hB4.frozen 1
    have hf2:=hB4.frozen 2
    go_wp2_with fail
    exact bodyPost_ret (v:=.agg #[.bool false,.slice none 0 0,.slice none 0 0]) (by simp[results,Tryz.results112,go_sem,x0,x1,x2]) rfl ⟨_,_,_,_,_,_,_,rfl,by rw[hval.out];exact OwR.zero _ _ _,slc⟩

set_option maxRecDepth 100000 in
set_option maxHeartbeats 4000000 in
theorem RatSub_any (w:World) {s:Bool}{A:Option Addr}{n c:Nat}{B:Option Addr}{m d:Nat}{r:RatD}{s':Bool}{A':Option Addr}{n' c':Nat}{B':Option Addr}{m' d':Nat}{r':RatD}(h:RdR w s A n c B m d r) (k:RdR w s' A' n' c' B' m' d' r') :
    Calls Tryz.prog 111 #[.agg #[.bool s,.slice A n c,.slice B m d],.agg #[.bool s',.slice A' n' c',.slice B' m' d']] w fun e w'=> ∃ s1 A1 n1 c1 B1 m1 d1,e=.returned (.agg #[.bool s1,.slice A1 n1 c1,.slice B1 m1 d1])∧OwR 3 w.heap.size w' s1 A1 n1 c1 B1 m1 d1 (subR r r')∧Bl w w':=by
  by_cases ho:OkR r∧OkR r'
  · have hall:=Lib.hid (allOk_two.2 ho)
    have hI:=IsR.out h ho.1
    have hI':=IsR.out k ho.2
    have hL:=OkR.lens h ho.1
    have hL':=OkR.lens k ho.2
    have hval:=Lib.hid (show subR r r'=ofFrac (rn r * rd r' - rn r' * rd r) (rd r * rd r') by unfold subR;rw[if_pos ho])
    clear ho
    go_enter Tryz.func111,Tryz.ntmps111
    go_wp2_with fail
    refine calls_gen (fun W=> Bl w W∧Blk W (w.heap.size) 31 #[.bool s,.slice A n c,.slice B m d]∧Blk W (w.heap.size+1) 31 #[.bool s',.slice A' n' c',.slice B' m' d']∧Wk 3 31 (w.heap.size+1+1) W∧Blk W (w.heap.size+1+1+1) 31 #[.bool s,.slice A n c,.slice B m d,.bool s',.slice A' n' c',.slice B' m' d']) ⟨slc,bts,bts,bts,Blk.new3 _ _ _ _ _ _⟩ ?_
    rintro W ⟨hbW,hx,hx',hr,hy⟩
    refine(areRats_yes _ (RdRS.two hy (h.bl hbW) (k.bl hbW)) hall.out).mono ?_
    rintro e w1 ⟨rfl,hb1⟩
    clear hy
    have hx:=hx.bl hb1
    have hx':=hx'.bl hb1
    have hr:=hr.bl hb1
    have hbW:=hbW.next hb1
    clear hb1
    obtain⟨i0,i1,i2⟩:=bx3 hx
    obtain⟨j0,j1,j2⟩:=bx3 hx'
    go_wp2_with fail
    have hz1:=hr.lt
    go_region_held3 (fun w' =>(w'.cell? ⟨w.heap.size,0,none⟩=some (.bool s)∧w'.cell? ⟨w.heap.size,1,none⟩=some (.slice A n c)∧w'.cell? ⟨w.heap.size,2,none⟩=some (.slice B m d))∧(w'.cell? ⟨w.heap.size+1,0,none⟩=some (.bool s')∧w'.cell? ⟨w.heap.size+1,1,none⟩=some (.slice A' n' c')∧w'.cell? ⟨w.heap.size+1,2,none⟩=some (.slice B' m' d'))∧(w'.cell? ⟨w.heap.size+1+1,0,none⟩=some (cellD w' (w.heap.size+1+1) 0)∧w'.cell? ⟨w.heap.size+1+1,1,none⟩=some (cellD w' (w.heap.size+1+1) 1)∧w'.cell? ⟨w.heap.size+1+1,2,none⟩=some (cellD w' (w.heap.size+1+1) 2))∧w'.frozen? ⟨w.heap.size+1+1,0,none⟩=false∧w'.frozen? ⟨w.heap.size+1+1,1,none⟩=false∧w'.frozen? ⟨w.heap.size+1+1,2,none⟩=false) (first | exact⟨bx3 (T:=31) bts,bx3 (T:=31) bts,Wk.out3 (T:=31) bts⟩) (first |(go_at_call 144;refine(negative_any _ (RdR.bl hI' slc)).mono ?_;rintro e w2 ⟨s2,rfl,hN,hb2⟩) |(go_at_call 143;refine(plus_any _ (RdR.bl hI slc) (RdR.bl hN slc) (by omega) (by omega) (by omega) (by omega) hL.2.2 hL'.2.2).mono ?_;rintro e w3 ⟨s1,A1,n1,c1,B1,m1,d1,rfl,hR,hb3⟩))
    have hz2:w1.heap.size≤w2.heap.size:=(Bl.size hb2:w1.drew.heap.size≤_)
    have hR:=hR.mono (show w.heap.size+1+1+1≤w2.heap.size from Nat.le_trans hz1 hz2)
    rw[show rn r * rd r'+-rn r' * rd r=rn r * rd r' - rn r' * rd r by rw[Int.neg_mul];omega,← hval.out] at hR
    have hr:=(show Wk 3 31 (w.heap.size+1+1) w3 from bts)
    have hbW:Bl w w3:=slc
    obtain⟨v0,x0⟩:=hr.val_ (i:=0) (by omega)
    obtain⟨v1,x1⟩:=hr.val_ (i:=1) (by omega)
    obtain⟨v2,x2⟩:=hr.val_ (i:=2) (by omega)
    have hg:=hr.lt
    obtain⟨cs4,hB4,hc4⟩:=hr
    have hf0:=hB4.frozen 0
    have hf1:=hB4.frozen 1
    have hf2:=hB4.frozen 2
    go_wp2_with fail
    exact bodyPost_ret (v:=.agg #[.bool s1,.slice A1 n1 c1,.slice B1 m1 d1]) (by simp[results,Tryz.results111,go_sem,x0,x1,x2]) rfl ⟨_,_,_,_,_,_,_,rfl,(((hR.far (by simp) _).far (by simp) _).far (by simp) _).mono (by omega),slc⟩
  · have hall:=Lib.hid (fun hk=> ho (allOk_two.1 hk):¬ AllOk [r,r'])
    have hval:=Lib.hid (show subR r r'=zR by unfold subR;rw[if_neg ho])
    have ho:=Lib.hid ho;rename_i h_;clear h_
    go_enter Tryz.func111,Tryz.ntmps111
    go_wp2_with fail
    refine calls_gen (fun W=> Bl w W∧Blk W (w.heap.size) 31 #[.bool s,.slice A n c,.slice B m d]∧Blk W (w.heap.size+1) 31 #[.bool s',.slice A' n' c',.slice B' m' d']∧Wk 3 31 (w.heap.size+1+1) W∧Blk W (w.heap.size+1+1+1) 31 #[.bool s,.slice A n c,.slice B m d,.bool s',.slice A' n' c',.slice B' m' d']) ⟨slc,bts,bts,bts,Blk.new3 _ _ _ _ _ _⟩ ?_
    rintro W ⟨hbW,hx,hx',hr,hy⟩
    refine(areRats_no _ (RdRS.two hy (h.bl hbW) (k.bl hbW)) hall.out).mono ?_
    rintro e w1 ⟨rfl,hb1⟩
    clear hy
    have hx:=hx.bl hb1
    have hx':=hx'.bl hb1
    have hr:=hr.bl hb1
    have hbW:=hbW.next hb1
    clear hb1
    obtain⟨i0,i1,i2⟩:=bx3 hx
    obtain⟨j0,j1,j2⟩:=bx3 hx'
    obtain⟨v0,x0⟩:=hr.val_ (i:=0) (by omega)
    obtain⟨v1,x1⟩:=hr.val_ (i:=1) (by omega)
    obtain⟨v2,x2⟩:=hr.val_ (i:=2) (by omega)
    have hg:=hr.lt
    obtain⟨cs4,hB4,hc4⟩:=hr
    have hf0:=hB4.frozen 0
    have hf1:=hB4.frozen 1
    have hf2:=hB4.frozen 2
    go_wp2_with fail
    exact bodyPost_ret (v:=.agg #[.bool false,.slice none 0 0,.slice none 0 0]) (by simp[results,Tryz.results111,go_sem,x0,x1,x2]) rfl ⟨_,_,_,_,_,_,_,rfl,by rw[hval.out];exact OwR.zero _ _ _,slc⟩
end

section
open Go.RowKit

set_option maxRecDepth 100000 in
set_option maxHeartbeats 4000000 in
theorem RatMul_bad (w:World) {s:Bool}{A:Option Addr}{n c:Nat}{B:Option Addr}{m d:Nat}{r:RatD}{s':Bool}{A':Option Addr}{n' c':Nat}{B':Option Addr}{m' d':Nat}{r':RatD}(h:RdR w s A n c B m d r) (k:RdR w s' A' n' c' B' m' d' r') (ho:¬ (OkR r∧OkR r')) :
    Calls Tryz.prog 113 #[.agg #[.bool s,.slice A n c,.slice B m d],.agg #[.bool s',.slice A' n' c',.slice B' m' d']] w fun e w'=> ∃ s1 A1 n1 c1 B1 m1 d1,e=.returned (.agg #[.bool s1,.slice A1 n1 c1,.slice B1 m1 d1])∧OwR 3 w.heap.size w' s1 A1 n1 c1 B1 m1 d1 (mulR r r')∧Bl w w':=by
  have hall:=Lib.hid (fun hk=> ho (allOk_two.1 hk):¬ AllOk [r,r'])
  have hval:=Lib.hid (show mulR r r'=zR by unfold mulR;rw[if_neg ho])
  have ho:=Lib.hid ho;rename_i h_;clear h_
  go_enter Tryz.func113,Tryz.ntmps113
  go_wp2_with fail
  refine calls_gen (fun W=> Bl w W∧Blk W (w.heap.size) 31 #[.bool s,.slice A n c,.slice B m d]∧Blk W (w.heap.size+1) 31 #[.bool s',.slice A' n' c',.slice B' m' d']∧Wk 3 31 (w.heap.size+1+1) W∧Blk W (w.heap.size+1+1+1) 31 #[.bool s,.slice A n c,.slice B m d,.bool s',.slice A' n' c',.slice B' m' d']) ⟨slc,bts,bts,bts,Blk.new3 _ _ _ _ _ _⟩ ?_
  rintro W ⟨hbW,hx,hx',hr,hy⟩
  refine(areRats_no _ (RdRS.two hy (h.bl hbW) (k.bl hbW)) hall.out).mono ?_
  rintro e w1 ⟨rfl,hb1⟩
  clear hy
  have hx:=hx.bl hb1
  have hx':=hx'.bl hb1
  have hr:=hr.bl hb1
  have hbW:=hbW.next hb1
  clear hb1
  obtain⟨i0,i1,i2⟩:=bx3 hx
  obtain⟨j0,j1,j2⟩:=bx3 hx'
  obtain⟨v0,x0⟩:=hr.val_ (i:=0) (by omega)
  obtain⟨v1,x1⟩:=hr.val_ (i:=1) (by omega)
  obtain⟨v2,x2⟩:=hr.val_ (i:=2) (by omega)
  have hg:=hr.lt
  obtain⟨cs4,hB4,hc4⟩:=hr
  have hf0:=hB4.frozen 0
  have hf1:=hB4.frozen 1
  have hf2:=hB4.frozen 2
  go_wp2_with fail
  exact bodyPost_ret (v:=.agg #[.bool false,.slice none 0 0,.slice none 0 0]) (by simp[results,Tryz.results113,go_sem,x0,x1,x2]) rfl ⟨_,_,_,_,_,_,_,rfl,by rw[hval.out];exact OwR.zero _ _ _,slc⟩


set_option maxRecDepth 100000 in
set_option maxHeartbeats 4000000 in
theorem RatMul_small (w:World) {s:Bool}{A:Option Addr}{n c:Nat}{B:Option Addr}{m d:Nat}{x:Int}{D:Nat}{s':Bool}{A':Option Addr}{n' c':Nat}{B':Option Addr}{m' d':Nat}{x':Int}{D':Nat}(h:IsR w s A n c B m d x D) (k:IsR w s' A' n' c' B' m' d' x' D') (hall:Hid (AllOk [raw x D,raw x' D'])) (hn:n≤1) (hm:m=1) (hn':n'≤1) (hm':m'=1) :
    Calls Tryz.prog 113 #[.agg #[.bool s,.slice A n c,.slice B m d],.agg #[.bool s',.slice A' n' c',.slice B' m' d']] w fun e w'=> ∃ s1 A1 n1 c1 B1 m1 d1,e=.returned (.agg #[.bool s1,.slice A1 n1 c1,.slice B1 m1 d1])∧OwR 3 w.heap.size w' s1 A1 n1 c1 B1 m1 d1 (ofFrac (x * x') (D * D'))∧Bl w w':=by
  subst hm hm'
  have hx0:=small_le (N:=x.natAbs) (by rw[h.num.lenN];exact hn)
  have hx0':=small_le (N:=x'.natAbs) (by rw[k.num.lenN];exact hn')
  have hD:=(one_limb h.dn.lenN).2
  have hD':=(one_limb k.dn.lenN).2
  have l1 : -1000000000000000000≤x * x'∧x * x'≤1000000000000000000:=by
    rcases Int.le_total 0 x' with hp | hp
    · exact mul_lim (by omega) (by omega) hp (by omega)
    · have:=mul_lim (a:=x) (b:=-x') (by omega) (by omega) (by omega) (by omega)
      rw[Int.mul_neg] at this
      omega
  have l3:=mul_lim (a:=(D:Int)) (b:=(D':Int)) (by omega) (by omega) (by omega) (by omega)
  have hDD:0 < D * D':=Nat.mul_pos hD.2 hD'.2
  generalize e1:x * x'=p1 at *
  have e3:(D:Int) * (D':Int)=((D * D':Nat):Int):=by rw[Int.natCast_mul]
  rw[e3] at l3
  generalize hP:D * D'=P at *
  have hP:=Lib.hid hP;rename_i h_;clear h_
  clear hx0 hx0'
  go_enter Tryz.func113,Tryz.ntmps113
  go_wp2_with fail
  refine calls_gen (fun W=> Bl w W∧Blk W (w.heap.size) 31 #[.bool s,.slice A n c,.slice B 1 d]∧Blk W (w.heap.size+1) 31 #[.bool s',.slice A' n' c',.slice B' 1 d']∧Wk 3 31 (w.heap.size+1+1) W∧Blk W (w.heap.size+1+1+1) 31 #[.bool s,.slice A n c,.slice B 1 d,.bool s',.slice A' n' c',.slice B' 1 d']) ⟨slc,bts,bts,bts,Blk.new3 _ _ _ _ _ _⟩ ?_
  rintro W ⟨hbW,hx,hx',hr,hy⟩
  refine(areRats_yes _ (RdRS.two hy (h.bl hbW) (k.bl hbW)) hall.out).mono ?_
  rintro e w1 ⟨rfl,hb1⟩
  clear hy
  have hx:=hx.bl hb1
  have hx':=hx'.bl hb1
  have hr:=hr.bl hb1
  have hbW:=hbW.next hb1
  clear hb1
  obtain⟨i0,i1,i2⟩:=bx3 hx
  obtain⟨j0,j1,j2⟩:=bx3 hx'
  go_wp2_with fail
  refine(isSmall_yes _ hn rfl).mono ?_
  rintro e w3 ⟨rfl,hb3⟩
  have hx:=hx.bl hb3
  have hx':=hx'.bl hb3
  have hr:=hr.bl hb3
  have hbW:=hbW.next hb3
  clear hb3
  obtain⟨i0,i1,i2⟩:=bx3 hx
  obtain⟨j0,j1,j2⟩:=bx3 hx'
  go_wp2_with fail
  refine(isSmall_yes _ hn' rfl).mono ?_
  rintro e w4 ⟨rfl,hb4⟩
  have hx:=hx.bl hb4
  have hx':=hx'.bl hb4
  have hr:=hr.bl hb4
  have hbW:=hbW.next hb4
  clear hb4
  obtain⟨i0,i1,i2⟩:=bx3 hx
  obtain⟨j0,j1,j2⟩:=bx3 hx'
  go_wp2_with fail
  refine(small_any _ (h.bl hbW) hn).mono ?_
  rintro e w5 ⟨rfl,hb5⟩
  have hx:=hx.bl hb5
  have hx':=hx'.bl hb5
  have hr:=hr.bl hb5
  have hbW:=hbW.next hb5
  clear hb5
  obtain⟨i0,i1,i2⟩:=bx3 hx
  obtain⟨j0,j1,j2⟩:=bx3 hx'
  go_wp2_with fail
  refine(small_any _ (k.bl hbW) hn').mono ?_
  rintro e w6 ⟨rfl,hb6⟩
  have hx:=hx.bl hb6
  have hx':=hx'.bl hb6
  have hr:=hr.bl hb6
  have hbW:=hbW.next hb6
  clear hb6
  obtain⟨i0,i1,i2⟩:=bx3 hx
  obtain⟨j0,j1,j2⟩:=bx3 hx'
  go_wp2_with fail
  refine(ofInts_any _ p1 P (by omega) (by omega) hDD (by omega)).mono ?_
  rintro e w7 ⟨s1,A1,n1,c1,B1,m1,d1,rfl,hR,hb7⟩
  have hR:=hR.mono (show w.heap.size+1+1+1≤w6.heap.size from hr.lt)
  have hx:=hx.bl hb7
  have hx':=hx'.bl hb7
  have hr:=hr.bl hb7
  have hbW:=hbW.next hb7
  clear hb7
  obtain⟨i0,i1,i2⟩:=bx3 hx
  obtain⟨j0,j1,j2⟩:=bx3 hx'
  obtain⟨v0,x0⟩:=hr.val_ (i:=0) (by omega)
  obtain⟨v1,x1⟩:=hr.val_ (i:=1) (by omega)
  obtain⟨v2,x2⟩:=hr.val_ (i:=2) (by omega)
  have hg:=hr.lt
  obtain⟨cs4,hB4,hc4⟩:=hr
  have hf0:=hB4.frozen 0
  have hf1:=hB4.frozen 1
  have hf2:=hB4.frozen 2
  go_wp2_with fail
  exact bodyPost_ret (v:=.agg #[.bool s1,.slice A1 n1 c1,.slice B1 m1 d1]) (by simp[results,Tryz.results113,go_sem,x0,x1,x2]) rfl ⟨_,_,_,_,_,_,_,rfl,(((hR.far (by simp) _).far (by simp) _).far (by simp) _).mono (by omega),slc⟩


set_option maxRecDepth 100000 in
set_option maxHeartbeats 8000000 in
theorem RatMul_big_yes (w:World) {s:Bool}{A:Option Addr}{n c:Nat}{B:Option Addr}{m d:Nat}{x:Int}{D:Nat}{s':Bool}{A':Option Addr}{n' c':Nat}{B':Option Addr}{m' d':Nat}{x':Int}{D':Nat}(h:IsR w s A n c B m d x D) (k:IsR w s' A' n' c' B' m' d' x' D') (hall:Hid (AllOk [raw x D,raw x' D'])) (hn:n≤262143) (hm:m≤262143) (hn':n'≤262143) (hm':m'≤262143) (hD:0 < D) (hD':0 < D') (h1:n≤1∧m=1) (h2:¬ (n'≤1∧m'=1)) :
    Calls Tryz.prog 113 #[.agg #[.bool s,.slice A n c,.slice B m d],.agg #[.bool s',.slice A' n' c',.slice B' m' d']] w fun e w'=> ∃ s1 A1 n1 c1 B1 m1 d1,e=.returned (.agg #[.bool s1,.slice A1 n1 c1,.slice B1 m1 d1])∧OwR 3 w.heap.size w' s1 A1 n1 c1 B1 m1 d1 (ofFrac (x * x') (D * D'))∧Bl w w':=by
  have q1:=h.num.lenN
  have q2:=h.dn.lenN
  have q3:=k.num.lenN
  have q4:=k.dn.lenN
  have hl3:(dig (x * x').natAbs).length≤1048576:=Nat.le_trans (imul_len (Nat.le_of_eq q1) (Nat.le_of_eq q3)) (by omega)
  have hlD:(dig (D * D')).length≤1048576:=Nat.le_trans (dig_mul_len (Nat.le_of_eq q2) (Nat.le_of_eq q4)) (by omega)
  have hDD:0 < D * D':=Nat.mul_pos hD hD'
  clear q1 q2 q3 q4
  have h1:=Lib.hid h1;rename_i h_;clear h_
  have h2:=Lib.hid h2;rename_i h_;clear h_
  go_enter Tryz.func113,Tryz.ntmps113
  go_wp2_with fail
  refine calls_gen (fun W=> Bl w W∧Blk W (w.heap.size) 31 #[.bool s,.slice A n c,.slice B m d]∧Blk W (w.heap.size+1) 31 #[.bool s',.slice A' n' c',.slice B' m' d']∧Wk 3 31 (w.heap.size+1+1) W∧Blk W (w.heap.size+1+1+1) 31 #[.bool s,.slice A n c,.slice B m d,.bool s',.slice A' n' c',.slice B' m' d']) ⟨slc,bts,bts,bts,Blk.new3 _ _ _ _ _ _⟩ ?_
  rintro W ⟨hbW,hx,hx',hr,hy⟩
  refine(areRats_yes _ (RdRS.two hy (h.bl hbW) (k.bl hbW)) hall.out).mono ?_
  rintro e w1 ⟨rfl,hb1⟩
  clear hy
  have hx:=hx.bl hb1
  have hx':=hx'.bl hb1
  have hr:=hr.bl hb1
  have hbW:=hbW.next hb1
  clear hb1
  obtain⟨i0,i1,i2⟩:=bx3 hx
  obtain⟨j0,j1,j2⟩:=bx3 hx'
  go_wp2_with fail
  refine(isSmall_yes _ h1.out.1 h1.out.2).mono ?_
  rintro e w2 ⟨rfl,hb2⟩
  have hx:=hx.bl hb2
  have hx':=hx'.bl hb2
  have hr:=hr.bl hb2
  have hbW:=hbW.next hb2
  clear hb2
  obtain⟨i0,i1,i2⟩:=bx3 hx
  obtain⟨j0,j1,j2⟩:=bx3 hx'
  go_wp2_with fail
  refine(isSmall_no _ h2.out).mono ?_
  rintro e w3 ⟨rfl,hb3⟩
  have hx:=hx.bl hb3
  have hx':=hx'.bl hb3
  have hr:=hr.bl hb3
  have hbW:=hbW.next hb3
  clear hb3
  obtain⟨i0,i1,i2⟩:=bx3 hx
  obtain⟨j0,j1,j2⟩:=bx3 hx'
  go_wp2_with fail
  have hz3:w.heap.size+1+1 < w3.heap.size:=hr.lt
  go_region_held3 (fun w' =>(w'.cell? ⟨w.heap.size,0,none⟩=some (.bool s)∧w'.cell? ⟨w.heap.size,1,none⟩=some (.slice A n c)∧w'.cell? ⟨w.heap.size,2,none⟩=some (.slice B m d))∧(w'.cell? ⟨w.heap.size+1,0,none⟩=some (.bool s')∧w'.cell? ⟨w.heap.size+1,1,none⟩=some (.slice A' n' c')∧w'.cell? ⟨w.heap.size+1,2,none⟩=some (.slice B' m' d'))∧(w'.cell? ⟨w.heap.size+1+1,0,none⟩=some (cellD w' (w.heap.size+1+1) 0)∧w'.cell? ⟨w.heap.size+1+1,1,none⟩=some (cellD w' (w.heap.size+1+1) 1)∧w'.cell? ⟨w.heap.size+1+1,2,none⟩=some (cellD w' (w.heap.size+1+1) 2))∧w'.frozen? ⟨w.heap.size+1+1,0,none⟩=false∧w'.frozen? ⟨w.heap.size+1+1,1,none⟩=false∧w'.frozen? ⟨w.heap.size+1+1,2,none⟩=false) (first | exact⟨bx3 (T:=31) bts,bx3 (T:=31) bts,Wk.out3 (T:=31) bts⟩) (first |(go_at_call 120;refine(bigMul_any _ (h.b.bl slc) (k.b.bl slc) (by omega) (by omega)).mono ?_;rintro e w4 ⟨s4,A4,n4,c4,rfl,hO,hb4⟩) |(go_at_call 147;refine(natMul_any _ (h.dn.bl slc) (k.dn.bl slc) (by omega) (by omega)).mono ?_;rintro e w5 ⟨A5,n5,c5,rfl,hO5,hb5⟩;(have hz4:w3.heap.size≤w4.heap.size:=(Bl.size hb4:w3.drew.heap.size≤_));(have hz5:w4.heap.size≤w5.heap.size:=Bl.size hb5);(have hR7:OwR 3 (w.heap.size+1+1+1) w5 s4 A4 n4 c4 A5 n5 c5 (raw (x * x') (D * D')):=(OwR.two' hO.2 hO5 hb5 hz4 hO.1).mono hz3);(have hl4:n4≤1048576:=by rw[← hO.len];exact hl3);(have hl5:n5≤1048576:=by rw[← hO5.rd.lenN];exact hlD);(have hz7:w.heap.size+1+1+1≤w5.heap.size:=by omega)) |(go_at_call 146;refine(reduced_any _ hR7 hz7 hl4 hl5 hDD).mono ?_;rintro e w8 ⟨s1,A1,n1,c1,B1,m1,d1,rfl,hR,hb8⟩))
  have hr:=(show Wk 3 31 (w.heap.size+1+1) w8 from bts)
  have hbW:Bl w w8:=slc
  obtain⟨v0,x0⟩:=hr.val_ (i:=0) (by omega)
  obtain⟨v1,x1⟩:=hr.val_ (i:=1) (by omega)
  obtain⟨v2,x2⟩:=hr.val_ (i:=2) (by omega)
  have hg:=hr.lt
  obtain⟨cs4,hB4,hc4⟩:=hr
  have hf0:=hB4.frozen 0
  have hf1:=hB4.frozen 1
  have hf2:=hB4.frozen 2
  go_wp2_with fail
  exact bodyPost_ret (v:=.agg #[.bool s1,.slice A1 n1 c1,.slice B1 m1 d1]) (by simp[results,Tryz.results113,go_sem,x0,x1,x2]) rfl ⟨_,_,_,_,_,_,_,rfl,(((hR.far (by simp) _).far (by simp) _).far (by simp) _).mono (by omega),slc⟩


set_option maxRecDepth 100000 in
set_option maxHeartbeats 8000000 in
theorem RatMul_big_no (w:World) {s:Bool}{A:Option Addr}{n c:Nat}{B:Option Addr}{m d:Nat}{x:Int}{D:Nat}{s':Bool}{A':Option Addr}{n' c':Nat}{B':Option Addr}{m' d':Nat}{x':Int}{D':Nat}(h:IsR w s A n c B m d x D) (k:IsR w s' A' n' c' B' m' d' x' D') (hall:Hid (AllOk [raw x D,raw x' D'])) (hn:n≤262143) (hm:m≤262143) (hn':n'≤262143) (hm':m'≤262143) (hD:0 < D) (hD':0 < D') (h1:¬ (n≤1∧m=1)) :
    Calls Tryz.prog 113 #[.agg #[.bool s,.slice A n c,.slice B m d],.agg #[.bool s',.slice A' n' c',.slice B' m' d']] w fun e w'=> ∃ s1 A1 n1 c1 B1 m1 d1,e=.returned (.agg #[.bool s1,.slice A1 n1 c1,.slice B1 m1 d1])∧OwR 3 w.heap.size w' s1 A1 n1 c1 B1 m1 d1 (ofFrac (x * x') (D * D'))∧Bl w w':=by
  have q1:=h.num.lenN
  have q2:=h.dn.lenN
  have q3:=k.num.lenN
  have q4:=k.dn.lenN
  have hl3:(dig (x * x').natAbs).length≤1048576:=Nat.le_trans (imul_len (Nat.le_of_eq q1) (Nat.le_of_eq q3)) (by omega)
  have hlD:(dig (D * D')).length≤1048576:=Nat.le_trans (dig_mul_len (Nat.le_of_eq q2) (Nat.le_of_eq q4)) (by omega)
  have hDD:0 < D * D':=Nat.mul_pos hD hD'
  clear q1 q2 q3 q4
  have h1:=Lib.hid h1;rename_i h_;clear h_

  go_enter Tryz.func113,Tryz.ntmps113
  go_wp2_with fail
  refine calls_gen (fun W=> Bl w W∧Blk W (w.heap.size) 31 #[.bool s,.slice A n c,.slice B m d]∧Blk W (w.heap.size+1) 31 #[.bool s',.slice A' n' c',.slice B' m' d']∧Wk 3 31 (w.heap.size+1+1) W∧Blk W (w.heap.size+1+1+1) 31 #[.bool s,.slice A n c,.slice B m d,.bool s',.slice A' n' c',.slice B' m' d']) ⟨slc,bts,bts,bts,Blk.new3 _ _ _ _ _ _⟩ ?_
  rintro W ⟨hbW,hx,hx',hr,hy⟩
  refine(areRats_yes _ (RdRS.two hy (h.bl hbW) (k.bl hbW)) hall.out).mono ?_
  rintro e w1 ⟨rfl,hb1⟩
  clear hy
  have hx:=hx.bl hb1
  have hx':=hx'.bl hb1
  have hr:=hr.bl hb1
  have hbW:=hbW.next hb1
  clear hb1
  obtain⟨i0,i1,i2⟩:=bx3 hx
  obtain⟨j0,j1,j2⟩:=bx3 hx'
  go_wp2_with fail
  refine(isSmall_no _ h1.out).mono ?_
  rintro e w2 ⟨rfl,hb2⟩
  have hx:=hx.bl hb2
  have hx':=hx'.bl hb2
  have hr:=hr.bl hb2
  have hbW:=hbW.next hb2
  clear hb2
  obtain⟨i0,i1,i2⟩:=bx3 hx
  obtain⟨j0,j1,j2⟩:=bx3 hx'
  go_wp2_with fail
  have hz3:w.heap.size+1+1 < w2.heap.size:=hr.lt
  go_region_held3 (fun w' =>(w'.cell? ⟨w.heap.size,0,none⟩=some (.bool s)∧w'.cell? ⟨w.heap.size,1,none⟩=some (.slice A n c)∧w'.cell? ⟨w.heap.size,2,none⟩=some (.slice B m d))∧(w'.cell? ⟨w.heap.size+1,0,none⟩=some (.bool s')∧w'.cell? ⟨w.heap.size+1,1,none⟩=some (.slice A' n' c')∧w'.cell? ⟨w.heap.size+1,2,none⟩=some (.slice B' m' d'))∧(w'.cell? ⟨w.heap.size+1+1,0,none⟩=some (cellD w' (w.heap.size+1+1) 0)∧w'.cell? ⟨w.heap.size+1+1,1,none⟩=some (cellD w' (w.heap.size+1+1) 1)∧w'.cell? ⟨w.heap.size+1+1,2,none⟩=some (cellD w' (w.heap.size+1+1) 2))∧w'.frozen? ⟨w.heap.size+1+1,0,none⟩=false∧w'.frozen? ⟨w.heap.size+1+1,1,none⟩=false∧w'.frozen? ⟨w.heap.size+1+1,2,none⟩=false) (first | exact⟨bx3 (T:=31) bts,bx3 (T:=31) bts,Wk.out3 (T:=31) bts⟩) (first |(go_at_call 120;refine(bigMul_any _ (h.b.bl slc) (k.b.bl slc) (by omega) (by omega)).mono ?_;rintro e w4 ⟨s4,A4,n4,c4,rfl,hO,hb4⟩) |(go_at_call 147;refine(natMul_any _ (h.dn.bl slc) (k.dn.bl slc) (by omega) (by omega)).mono ?_;rintro e w5 ⟨A5,n5,c5,rfl,hO5,hb5⟩;(have hz4:w2.heap.size≤w4.heap.size:=(Bl.size hb4:w2.drew.heap.size≤_));(have hz5:w4.heap.size≤w5.heap.size:=Bl.size hb5);(have hR7:OwR 3 (w.heap.size+1+1+1) w5 s4 A4 n4 c4 A5 n5 c5 (raw (x * x') (D * D')):=(OwR.two' hO.2 hO5 hb5 hz4 hO.1).mono hz3);(have hl4:n4≤1048576:=by rw[← hO.len];exact hl3);(have hl5:n5≤1048576:=by rw[← hO5.rd.lenN];exact hlD);(have hz7:w.heap.size+1+1+1≤w5.heap.size:=by omega)) |(go_at_call 146;refine(reduced_any _ hR7 hz7 hl4 hl5 hDD).mono ?_;rintro e w8 ⟨s1,A1,n1,c1,B1,m1,d1,rfl,hR,hb8⟩))
  have hr:=(show Wk 3 31 (w.heap.size+1+1) w8 from bts)
  have hbW:Bl w w8:=slc
  obtain⟨v0,x0⟩:=hr.val_ (i:=0) (by omega)
  obtain⟨v1,x1⟩:=hr.val_ (i:=1) (by omega)
  obtain⟨v2,x2⟩:=hr.val_ (i:=2) (by omega)
  have hg:=hr.lt
  obtain⟨cs4,hB4,hc4⟩:=hr
  have hf0:=hB4.frozen 0
  have hf1:=hB4.frozen 1
  have hf2:=hB4.frozen 2
  go_wp2_with fail
  exact bodyPost_ret (v:=.agg #[.bool s1,.slice A1 n1 c1,.slice B1 m1 d1]) (by simp[results,Tryz.results113,go_sem,x0,x1,x2]) rfl ⟨_,_,_,_,_,_,_,rfl,(((hR.far (by simp) _).far (by simp) _).far (by simp) _).mono (by omega),slc⟩


theorem RatMul_any (w:World) {s:Bool}{A:Option Addr}{n c:Nat}{B:Option Addr}{m d:Nat}{r:RatD}{s':Bool}{A':Option Addr}{n' c':Nat}{B':Option Addr}{m' d':Nat}{r':RatD}(h:RdR w s A n c B m d r) (k:RdR w s' A' n' c' B' m' d' r') :
    Calls Tryz.prog 113 #[.agg #[.bool s,.slice A n c,.slice B m d],.agg #[.bool s',.slice A' n' c',.slice B' m' d']] w fun e w'=> ∃ s1 A1 n1 c1 B1 m1 d1,e=.returned (.agg #[.bool s1,.slice A1 n1 c1,.slice B1 m1 d1])∧OwR 3 w.heap.size w' s1 A1 n1 c1 B1 m1 d1 (mulR r r')∧Bl w w':=by
  by_cases ho:OkR r∧OkR r'
  · have hall:=Lib.hid (allOk_two.2 ho)
    have e1:=ho.1.get.1
    have e2:=ho.2.get.1
    have hI:=IsR.out h ho.1
    have hI':=IsR.out k ho.2
    have hL:=OkR.lens h ho.1
    have hL':=OkR.lens k ho.2
    rw[show mulR r r'=ofFrac (rn r * rn r') (rd r * rd r') by unfold mulR;rw[if_pos ho]]
    rw[e1,e2] at hall
    by_cases h1:n≤1∧m=1
    · by_cases h2:n'≤1∧m'=1
      · exact RatMul_small w hI hI' hall h1.1 h1.2 h2.1 h2.2
      · exact RatMul_big_yes w hI hI' hall (by omega) (by omega) (by omega) (by omega) hL.2.2 hL'.2.2 h1 h2
    · exact RatMul_big_no w hI hI' hall (by omega) (by omega) (by omega) (by omega) hL.2.2 hL'.2.2 h1
  · exact RatMul_bad w h k ho
end

end Go.Proofs.YtjaapemopbbfaaaGreat
