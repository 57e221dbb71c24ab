/- Lemmas. -/
import Derived.Test.YtjaapemopbbfaaaGreatRows
import Derived.Test.YtjaapemopbbfaaaGreatPWorstShapeM08
namespace Go.Proofs.YtjaapemopbbfaaaGreat
section
open Go.RowKit


set_option maxHeartbeats 1600000 in
theorem signed_any (w:World) (s:Bool) {A:Option Addr}{n c N:Nat}(h:IsN w A n c N) :
    Calls Tryz.prog 154 #[.bool s,.slice A n c] w fun e w'=> ∃ s',e=.returned (.agg #[.bool s',.slice A n c])∧Hid (s'=(s && decide (0 < N)))∧Bl w w':=by
  have hl:=h.lenN
  have hp:=dig_len_pos (n:=N)
  rw[hl] at hp
  clear hl
  rcases s with _ | _
  · have hs:=Lib.hid (show false=(false && decide (0 < N)) from rfl)
    clear hp
    go_enter Tryz.func154,Tryz.ntmps154
    go_wp2_with fail
    exact bodyPost_ret (v:=.agg #[.bool false,.slice A n c]) (by simp[results,Tryz.results154,go_sem]) rfl ⟨_,rfl,hs,slc⟩
  · rcases Nat.eq_zero_or_pos n with h0 | h0
    · have hN:N=0:=by omega
      have hs:=Lib.hid (show false=(true && decide (0 < N)) by simp[hN])
      subst h0
      clear hp hN
      go_enter Tryz.func154,Tryz.ntmps154
      go_wp2_with fail
      exact bodyPost_ret (v:=.agg #[.bool false,.slice A 0 c]) (by simp[results,Tryz.results154,go_sem]) rfl ⟨_,rfl,hs,slc⟩
    · have hs:=Lib.hid (show true=(true && decide (0 < N)) by simp;omega)
      have h0i:0 < (n:Int):=by omega
      clear hp
      go_enter Tryz.func154,Tryz.ntmps154
      go_wp2_with fail
      exact bodyPost_ret (v:=.agg #[.bool true,.slice A n c]) (by simp[results,Tryz.results154,go_sem]) rfl ⟨_,rfl,hs,slc⟩


theorem mul_sign {x y:Int}{s t s':Bool}(hs:s=decide (x < 0)) (ht:t=decide (y < 0)) (h:s'=((s != t) && decide (0 < x.natAbs * y.natAbs))):s'=decide (x * y < 0):=by
  subst hs ht h
  have hn:(x * y).natAbs=x.natAbs * y.natAbs:=Int.natAbs_mul x y
  rcases Int.lt_trichotomy x 0 with hx | hx | hx <;> rcases Int.lt_trichotomy y 0 with hy | hy | hy
  · have:=Int.mul_pos_of_neg_of_neg hx hy
    simp[hx,hy];omega
  · subst hy;simp
  · have:=Int.mul_neg_of_neg_of_pos hx hy
    have hp:0 < x.natAbs * y.natAbs:=by rw[← hn];omega
    simp[hx,show ¬ y < 0 by omega,this,hp]
  · subst hx;simp
  · subst hx;simp
  · subst hx;simp
  · have:=Int.mul_neg_of_pos_of_neg hx hy
    have hp:0 < x.natAbs * y.natAbs:=by rw[← hn];omega
    simp[hy,show ¬ x < 0 by omega,this,hp]
  · subst hy;simp
  · have:=Int.mul_pos hx hy
    simp[show ¬ x < 0 by omega,show ¬ y < 0 by omega];omega
set_option maxRecDepth 100000 in
set_option maxHeartbeats 4000000 in
theorem bigMul_any (w:World) {s:Bool}{A:Option Addr}{n c:Nat}{x:Int}{t:Bool}{B:Option Addr}{m d:Nat}{y:Int}(h:IsB w s A n c x) (k:IsB w t B m d y) (hn:n≤1048576) (hm:m≤1048576) :
    Calls Tryz.prog 120 #[.agg #[.bool s,.slice A n c],.agg #[.bool t,.slice B m d]] w fun e w'=> ∃ s' A' n' c',e=.returned (.agg #[.bool s',.slice A' n' c'])∧OwB 3 w.heap.size w' s' A' n' c' (x * y)∧Bl w w':=by
  have hs:=Lib.hid h.1
  have ht:=Lib.hid k.1
  go_enter Tryz.func120,Tryz.ntmps120
  go_wp2_with fail
  refine wp_gen (fun W=> Bl w W∧Blk W (w.heap.size) 29 #[.bool s,.slice A n c]∧Blk W (w.heap.size+1) 29 #[.bool t,.slice B m d]∧Wk 2 29 (w.heap.size+1+1) W) ⟨slc,bts,bts,bts⟩ ?_
  rintro W ⟨hbW,hx1,hx2,hr⟩
  go_region_held3 (fun w' =>(w'.cell? ⟨w.heap.size,0,none⟩=some (.bool s)∧w'.cell? ⟨w.heap.size,1,none⟩=some (.slice A n c))∧(w'.cell? ⟨w.heap.size+1,0,none⟩=some (.bool t)∧w'.cell? ⟨w.heap.size+1,1,none⟩=some (.slice B m d))∧(w'.cell? ⟨w.heap.size+1+1,0,none⟩=some (cellD w' (w.heap.size+1+1) 0)∧w'.cell? ⟨w.heap.size+1+1,1,none⟩=some (cellD w' (w.heap.size+1+1) 1))∧w'.frozen? ⟨w.heap.size+1+1,0,none⟩=false∧w'.frozen? ⟨w.heap.size+1+1,1,none⟩=false) (first | exact⟨bx2 (T:=29) bts,bx2 (T:=29) bts,Wk.out2 (T:=29) bts⟩) (first |(go_at_call 147;with_reducible refine(natMul_any _ (h.mg.bl slc) (k.mg.bl slc) hn hm).mono ?_;rintro e w3 ⟨A1,k1,c1,rfl,hO,hb3⟩) |(go_at_call 154;with_reducible refine(signed_any _ _ (hO.rd.bl slc)).mono ?_;rintro e w4 ⟨s',rfl,hs',hb4⟩))
  have hg:w.heap.size+1+1 < w4.heap.size:=Wk.lt (k:=2) (T:=29) (by exact bts)
  have hrl:Wk 2 29 (w.heap.size+1+1) w4:=bts
  have hbl:Bl w w4:=slc
  obtain⟨v0,x0⟩:=hrl.val_ (i:=0) (by omega)
  obtain⟨v1,x1⟩:=hrl.val_ (i:=1) (by omega)
  have hz:w.heap.size+1+1 < W.heap.size:=hr.lt
  have hO4:OwB 3 (w.heap.size+1+1+1) w4 s' A1 k1 c1 (x * y):=⟨mul_sign hs.out ht.out hs'.out,by rw[Int.natAbs_mul];exact(hO.bl hb4).mono hz⟩
  go_wp2_with fail
  refine bodyPost_ret (v:=.agg #[.bool s',.slice A1 k1 c1]) (by simp[results,Tryz.results120,go_sem,x0,x1]) rfl ⟨_,_,_,_,rfl,((hO4.far (by simp) _).far (by simp) _).mono (by omega),slc⟩



theorem add_same {x y:Int}{s s':Bool}(hs:s=decide (x < 0)) (ht:s=decide (y < 0)) (h:s'=(s && decide (0 < x.natAbs+y.natAbs))):s'=decide (x+y < 0)∧(x+y).natAbs=x.natAbs+y.natAbs:=by
  rcases s with _ | _
  · have h1:¬ x < 0:=by simpa using hs.symm
    have h2:¬ y < 0:=by simpa using ht.symm
    rw[h]
    exact⟨by simp;omega,by omega⟩
  · have h1:x < 0:=by simpa using hs.symm
    have h2:y < 0:=by simpa using ht.symm
    rw[h]
    refine⟨?_,by omega⟩
    rw[decide_eq_true (show 0 < x.natAbs+y.natAbs by omega),decide_eq_true (show x+y < 0 by omega)];rfl
theorem add_diff {x y:Int}{s t s':Bool}(hs:s=decide (x < 0)) (ht:t=decide (y < 0)) (hne:s=!t) (hle:y.natAbs≤x.natAbs) (h:s'=(s && decide (0 < x.natAbs - y.natAbs))):s'=decide (x+y < 0)∧(x+y).natAbs=x.natAbs - y.natAbs:=by
  rcases t with _ | _
  · obtain rfl:s=true:=hne
    have h1:x < 0:=by simpa using hs.symm
    have h2:¬ y < 0:=by simpa using ht.symm
    rw[h]
    refine⟨?_,by omega⟩
    rw[Bool.true_and,Bool.eq_iff_iff]
    simp
    omega
  · obtain rfl:s=false:=hne
    have h1:¬ x < 0:=by simpa using hs.symm
    have h2:y < 0:=by simpa using ht.symm
    rw[h]
    exact⟨by simp;omega,by omega⟩
theorem add_diff2 {x y:Int}{s t s':Bool}(hs:s=decide (x < 0)) (ht:t=decide (y < 0)) (hne:t=!s) (hle:x.natAbs≤y.natAbs) (h:s'=(t && decide (0 < y.natAbs - x.natAbs))):s'=decide (x+y < 0)∧(x+y).natAbs=y.natAbs - x.natAbs:=by
  rw[Int.add_comm];exact add_diff ht hs hne hle h
set_option maxRecDepth 100000 in
set_option maxHeartbeats 4000000 in
theorem bigAdd_same_true (w:World) {A:Option Addr}{n c:Nat}{x:Int}{B:Option Addr}{m d:Nat}{y:Int}(h:IsB w true A n c x) (k:IsB w true B m d y) (hn:n≤1048576) (hm:m≤1048576) :
    Calls Tryz.prog 163 #[.agg #[.bool true,.slice A n c],.agg #[.bool true,.slice B m d]] w fun e w'=> ∃ s' A' n' c',e=.returned (.agg #[.bool s',.slice A' n' c'])∧OwB 3 w.heap.size w' s' A' n' c' (x+y)∧Bl w w':=by
  have hs:=Lib.hid h.1
  have ht:=Lib.hid k.1
  go_enter Tryz.func163,Tryz.ntmps163
  go_wp2_with fail
  refine wp_gen (fun W=> Bl w W∧Blk W (w.heap.size) 29 #[.bool true,.slice A n c]∧Blk W (w.heap.size+1) 29 #[.bool true,.slice B m d]∧Wk 2 29 (w.heap.size+1+1) W) ⟨slc,bts,bts,bts⟩ ?_
  rintro W ⟨hbW,hx1,hx2,hr⟩
  obtain⟨j0,j1⟩:=bx2 hx1
  obtain⟨j2,j3⟩:=bx2 hx2
  go_wp2_with fail
  go_region_held3 (fun w' =>(w'.cell? ⟨w.heap.size,0,none⟩=some (.bool true)∧w'.cell? ⟨w.heap.size,1,none⟩=some (.slice A n c))∧(w'.cell? ⟨w.heap.size+1,0,none⟩=some (.bool true)∧w'.cell? ⟨w.heap.size+1,1,none⟩=some (.slice B m d))∧(w'.cell? ⟨w.heap.size+1+1,0,none⟩=some (cellD w' (w.heap.size+1+1) 0)∧w'.cell? ⟨w.heap.size+1+1,1,none⟩=some (cellD w' (w.heap.size+1+1) 1))∧w'.frozen? ⟨w.heap.size+1+1,0,none⟩=false∧w'.frozen? ⟨w.heap.size+1+1,1,none⟩=false) (first | exact⟨bx2 (T:=29) bts,bx2 (T:=29) bts,Wk.out2 (T:=29) bts⟩) (first |(go_at_call 170;with_reducible refine(natAdd_any _ (h.mg.bl slc) (k.mg.bl slc) hn hm).mono ?_;rintro e w3 ⟨A1,k1,c1,rfl,hO,hb3⟩) |(go_at_call 154;with_reducible refine(signed_any _ _ (hO.rd.bl slc)).mono ?_;rintro e w4 ⟨s',rfl,hs',hb4⟩))
  have hg:w.heap.size+1+1 < w4.heap.size:=Wk.lt (k:=2) (T:=29) (by exact bts)
  have hrl:Wk 2 29 (w.heap.size+1+1) w4:=bts
  have hbl:Bl w w4:=slc
  obtain⟨v0,x0⟩:=hrl.val_ (i:=0) (by omega)
  obtain⟨v1,x1⟩:=hrl.val_ (i:=1) (by omega)
  have hz:w.heap.size+1+1 < W.heap.size:=hr.lt
  have hO4:OwB 3 (w.heap.size+1+1+1) w4 s' A1 k1 c1 (x+y):=⟨(add_same hs.out ht.out hs'.out).1,by rw[(add_same hs.out ht.out hs'.out).2];exact(hO.bl hb4).mono hz⟩
  go_wp2_with fail
  refine bodyPost_ret (v:=.agg #[.bool s',.slice A1 k1 c1]) (by simp[results,Tryz.results163,go_sem,x0,x1]) rfl ⟨_,_,_,_,rfl,((hO4.far (by simp) _).far (by simp) _).mono (by omega),slc⟩
set_option maxRecDepth 100000 in
set_option maxHeartbeats 4000000 in
theorem bigAdd_bus_true (w:World) {A:Option Addr}{n c:Nat}{x:Int}{B:Option Addr}{m d:Nat}{y:Int}(h:IsB w true A n c x) (k:IsB w false B m d y) (hn:n≤1048576) (hm:m≤1048576) (hle:x.natAbs < y.natAbs) :
    Calls Tryz.prog 163 #[.agg #[.bool true,.slice A n c],.agg #[.bool false,.slice B m d]] w fun e w'=> ∃ s' A' n' c',e=.returned (.agg #[.bool s',.slice A' n' c'])∧OwB 3 w.heap.size w' s' A' n' c' (x+y)∧Bl w w':=by
  have hs:=Lib.hid h.1
  have ht:=Lib.hid k.1
  have hcc:cmpI (x.natAbs:Int) (y.natAbs:Int) < 0:=by unfold cmpI;split <;> (try split) <;> omega
  have hle:=Lib.hid hle;rename_i h_;clear h_
  generalize hcd:cmpI (x.natAbs:Int) (y.natAbs:Int)=cc at hcc
  go_enter Tryz.func163,Tryz.ntmps163
  go_wp2_with fail
  refine calls_gen (fun W=> Bl w W∧Blk W (w.heap.size) 29 #[.bool true,.slice A n c]∧Blk W (w.heap.size+1) 29 #[.bool false,.slice B m d]∧Wk 2 29 (w.heap.size+1+1) W) ⟨slc,bts,bts,bts⟩ ?_
  rintro W ⟨hbW,hx1,hx2,hr⟩
  obtain⟨j0,j1⟩:=bx2 hx1
  obtain⟨j2,j3⟩:=bx2 hx2
  refine(natCmp_any _ (h.mg.bl hbW) (k.mg.bl hbW) (by omega) (by omega)).mono ?_
  rw[hcd]
  rintro e w2 ⟨rfl,q,rfl⟩
  clear hcd
  go_wp2_with fail
  go_region_held3 (fun w' =>(w'.cell? ⟨w.heap.size,0,none⟩=some (.bool true)∧w'.cell? ⟨w.heap.size,1,none⟩=some (.slice A n c))∧(w'.cell? ⟨w.heap.size+1,0,none⟩=some (.bool false)∧w'.cell? ⟨w.heap.size+1,1,none⟩=some (.slice B m d))∧(w'.cell? ⟨w.heap.size+1+1,0,none⟩=some (cellD w' (w.heap.size+1+1) 0)∧w'.cell? ⟨w.heap.size+1+1,1,none⟩=some (cellD w' (w.heap.size+1+1) 1))∧w'.frozen? ⟨w.heap.size+1+1,0,none⟩=false∧w'.frozen? ⟨w.heap.size+1+1,1,none⟩=false) (first | exact⟨bx2 (T:=29) bts,bx2 (T:=29) bts,Wk.out2 (T:=29) bts⟩) (first |(go_at_call 171;with_reducible refine(natSub_any _ (k.mg.bl slc) (h.mg.bl slc) hm (Nat.le_of_lt hle.out)).mono ?_;rintro e w3 ⟨A1,k1,c1,rfl,hO,hb3⟩) |(go_at_call 154;with_reducible refine(signed_any _ _ (hO.rd.bl slc)).mono ?_;rintro e w4 ⟨s',rfl,hs',hb4⟩))
  have hg:w.heap.size+1+1 < w4.heap.size:=Wk.lt (k:=2) (T:=29) (by exact bts)
  have hrl:Wk 2 29 (w.heap.size+1+1) w4:=bts
  have hbl:Bl w w4:=slc
  obtain⟨v0,x0⟩:=hrl.val_ (i:=0) (by omega)
  obtain⟨v1,x1⟩:=hrl.val_ (i:=1) (by omega)
  have hz:w.heap.size+1+1 < W.heap.size:=hr.lt
  have hO4:OwB 3 (w.heap.size+1+1+1) w4 s' A1 k1 c1 (x+y):=⟨(add_diff2 hs.out ht.out rfl (Nat.le_of_lt hle.out) hs'.out).1,by rw[(add_diff2 hs.out ht.out rfl (Nat.le_of_lt hle.out) hs'.out).2];exact(hO.bl hb4).mono hz⟩
  go_wp2_with fail
  refine bodyPost_ret (v:=.agg #[.bool s',.slice A1 k1 c1]) (by simp[results,Tryz.results163,go_sem,x0,x1]) rfl ⟨_,_,_,_,rfl,((hO4.far (by simp) _).far (by simp) _).mono (by omega),slc⟩
set_option maxRecDepth 100000 in
set_option maxHeartbeats 4000000 in
theorem bigAdd_sub_true (w:World) {A:Option Addr}{n c:Nat}{x:Int}{B:Option Addr}{m d:Nat}{y:Int}(h:IsB w true A n c x) (k:IsB w false B m d y) (hn:n≤1048576) (hm:m≤1048576) (hle:y.natAbs≤x.natAbs) :
    Calls Tryz.prog 163 #[.agg #[.bool true,.slice A n c],.agg #[.bool false,.slice B m d]] w fun e w'=> ∃ s' A' n' c',e=.returned (.agg #[.bool s',.slice A' n' c'])∧OwB 3 w.heap.size w' s' A' n' c' (x+y)∧Bl w w':=by
  have hs:=Lib.hid h.1
  have ht:=Lib.hid k.1
  have hcc:0≤cmpI (x.natAbs:Int) (y.natAbs:Int):=by unfold cmpI;split <;> (try split) <;> omega
  have hle:=Lib.hid hle;rename_i h_;clear h_
  generalize hcd:cmpI (x.natAbs:Int) (y.natAbs:Int)=cc at hcc
  go_enter Tryz.func163,Tryz.ntmps163
  go_wp2_with fail
  refine calls_gen (fun W=> Bl w W∧Blk W (w.heap.size) 29 #[.bool true,.slice A n c]∧Blk W (w.heap.size+1) 29 #[.bool false,.slice B m d]∧Wk 2 29 (w.heap.size+1+1) W) ⟨slc,bts,bts,bts⟩ ?_
  rintro W ⟨hbW,hx1,hx2,hr⟩
  obtain⟨j0,j1⟩:=bx2 hx1
  obtain⟨j2,j3⟩:=bx2 hx2
  refine(natCmp_any _ (h.mg.bl hbW) (k.mg.bl hbW) (by omega) (by omega)).mono ?_
  rw[hcd]
  rintro e w2 ⟨rfl,q,rfl⟩
  clear hcd
  go_wp2_with fail
  go_region_held3 (fun w' =>(w'.cell? ⟨w.heap.size,0,none⟩=some (.bool true)∧w'.cell? ⟨w.heap.size,1,none⟩=some (.slice A n c))∧(w'.cell? ⟨w.heap.size+1,0,none⟩=some (.bool false)∧w'.cell? ⟨w.heap.size+1,1,none⟩=some (.slice B m d))∧(w'.cell? ⟨w.heap.size+1+1,0,none⟩=some (cellD w' (w.heap.size+1+1) 0)∧w'.cell? ⟨w.heap.size+1+1,1,none⟩=some (cellD w' (w.heap.size+1+1) 1))∧w'.frozen? ⟨w.heap.size+1+1,0,none⟩=false∧w'.frozen? ⟨w.heap.size+1+1,1,none⟩=false) (first | exact⟨bx2 (T:=29) bts,bx2 (T:=29) bts,Wk.out2 (T:=29) bts⟩) (first |(go_at_call 171;with_reducible refine(natSub_any _ (h.mg.bl slc) (k.mg.bl slc) hn hle.out).mono ?_;rintro e w3 ⟨A1,k1,c1,rfl,hO,hb3⟩) |(go_at_call 154;with_reducible refine(signed_any _ _ (hO.rd.bl slc)).mono ?_;rintro e w4 ⟨s',rfl,hs',hb4⟩))
  have hg:w.heap.size+1+1 < w4.heap.size:=Wk.lt (k:=2) (T:=29) (by exact bts)
  have hrl:Wk 2 29 (w.heap.size+1+1) w4:=bts
  have hbl:Bl w w4:=slc
  obtain⟨v0,x0⟩:=hrl.val_ (i:=0) (by omega)
  obtain⟨v1,x1⟩:=hrl.val_ (i:=1) (by omega)
  have hz:w.heap.size+1+1 < W.heap.size:=hr.lt
  have hO4:OwB 3 (w.heap.size+1+1+1) w4 s' A1 k1 c1 (x+y):=⟨(add_diff hs.out ht.out rfl hle.out hs'.out).1,by rw[(add_diff hs.out ht.out rfl hle.out hs'.out).2];exact(hO.bl hb4).mono hz⟩
  go_wp2_with fail
  refine bodyPost_ret (v:=.agg #[.bool s',.slice A1 k1 c1]) (by simp[results,Tryz.results163,go_sem,x0,x1]) rfl ⟨_,_,_,_,rfl,((hO4.far (by simp) _).far (by simp) _).mono (by omega),slc⟩
set_option maxRecDepth 100000 in
set_option maxHeartbeats 4000000 in
theorem bigAdd_same_false (w:World) {A:Option Addr}{n c:Nat}{x:Int}{B:Option Addr}{m d:Nat}{y:Int}(h:IsB w false A n c x) (k:IsB w false B m d y) (hn:n≤1048576) (hm:m≤1048576) :
    Calls Tryz.prog 163 #[.agg #[.bool false,.slice A n c],.agg #[.bool false,.slice B m d]] w fun e w'=> ∃ s' A' n' c',e=.returned (.agg #[.bool s',.slice A' n' c'])∧OwB 3 w.heap.size w' s' A' n' c' (x+y)∧Bl w w':=by
  have hs:=Lib.hid h.1
  have ht:=Lib.hid k.1
  go_enter Tryz.func163,Tryz.ntmps163
  go_wp2_with fail
  refine wp_gen (fun W=> Bl w W∧Blk W (w.heap.size) 29 #[.bool false,.slice A n c]∧Blk W (w.heap.size+1) 29 #[.bool false,.slice B m d]∧Wk 2 29 (w.heap.size+1+1) W) ⟨slc,bts,bts,bts⟩ ?_
  rintro W ⟨hbW,hx1,hx2,hr⟩
  obtain⟨j0,j1⟩:=bx2 hx1
  obtain⟨j2,j3⟩:=bx2 hx2
  go_wp2_with fail
  go_region_held3 (fun w' =>(w'.cell? ⟨w.heap.size,0,none⟩=some (.bool false)∧w'.cell? ⟨w.heap.size,1,none⟩=some (.slice A n c))∧(w'.cell? ⟨w.heap.size+1,0,none⟩=some (.bool false)∧w'.cell? ⟨w.heap.size+1,1,none⟩=some (.slice B m d))∧(w'.cell? ⟨w.heap.size+1+1,0,none⟩=some (cellD w' (w.heap.size+1+1) 0)∧w'.cell? ⟨w.heap.size+1+1,1,none⟩=some (cellD w' (w.heap.size+1+1) 1))∧w'.frozen? ⟨w.heap.size+1+1,0,none⟩=false∧w'.frozen? ⟨w.heap.size+1+1,1,none⟩=false) (first | exact⟨bx2 (T:=29) bts,bx2 (T:=29) bts,Wk.out2 (T:=29) bts⟩) (first |(go_at_call 170;with_reducible refine(natAdd_any _ (h.mg.bl slc) (k.mg.bl slc) hn hm).mono ?_;rintro e w3 ⟨A1,k1,c1,rfl,hO,hb3⟩) |(go_at_call 154;with_reducible refine(signed_any _ _ (hO.rd.bl slc)).mono ?_;rintro e w4 ⟨s',rfl,hs',hb4⟩))
  have hg:w.heap.size+1+1 < w4.heap.size:=Wk.lt (k:=2) (T:=29) (by exact bts)
  have hrl:Wk 2 29 (w.heap.size+1+1) w4:=bts
  have hbl:Bl w w4:=slc
  obtain⟨v0,x0⟩:=hrl.val_ (i:=0) (by omega)
  obtain⟨v1,x1⟩:=hrl.val_ (i:=1) (by omega)
  have hz:w.heap.size+1+1 < W.heap.size:=hr.lt
  have hO4:OwB 3 (w.heap.size+1+1+1) w4 s' A1 k1 c1 (x+y):=⟨(add_same hs.out ht.out hs'.out).1,by rw[(add_same hs.out ht.out hs'.out).2];exact(hO.bl hb4).mono hz⟩
  go_wp2_with fail
  refine bodyPost_ret (v:=.agg #[.bool s',.slice A1 k1 c1]) (by simp[results,Tryz.results163,go_sem,x0,x1]) rfl ⟨_,_,_,_,rfl,((hO4.far (by simp) _).far (by simp) _).mono (by omega),slc⟩
set_option maxRecDepth 100000 in
set_option maxHeartbeats 4000000 in
theorem bigAdd_bus_false (w:World) {A:Option Addr}{n c:Nat}{x:Int}{B:Option Addr}{m d:Nat}{y:Int}(h:IsB w false A n c x) (k:IsB w true B m d y) (hn:n≤1048576) (hm:m≤1048576) (hle:x.natAbs < y.natAbs) :
    Calls Tryz.prog 163 #[.agg #[.bool false,.slice A n c],.agg #[.bool true,.slice B m d]] w fun e w'=> ∃ s' A' n' c',e=.returned (.agg #[.bool s',.slice A' n' c'])∧OwB 3 w.heap.size w' s' A' n' c' (x+y)∧Bl w w':=by
  have hs:=Lib.hid h.1
  have ht:=Lib.hid k.1
  have hcc:cmpI (x.natAbs:Int) (y.natAbs:Int) < 0:=by unfold cmpI;split <;> (try split) <;> omega
  have hle:=Lib.hid hle;rename_i h_;clear h_
  generalize hcd:cmpI (x.natAbs:Int) (y.natAbs:Int)=cc at hcc
  go_enter Tryz.func163,Tryz.ntmps163
  go_wp2_with fail
  refine calls_gen (fun W=> Bl w W∧Blk W (w.heap.size) 29 #[.bool false,.slice A n c]∧Blk W (w.heap.size+1) 29 #[.bool true,.slice B m d]∧Wk 2 29 (w.heap.size+1+1) W) ⟨slc,bts,bts,bts⟩ ?_
  rintro W ⟨hbW,hx1,hx2,hr⟩
  obtain⟨j0,j1⟩:=bx2 hx1
  obtain⟨j2,j3⟩:=bx2 hx2
  refine(natCmp_any _ (h.mg.bl hbW) (k.mg.bl hbW) (by omega) (by omega)).mono ?_
  rw[hcd]
  rintro e w2 ⟨rfl,q,rfl⟩
  clear hcd
  go_wp2_with fail
  go_region_held3 (fun w' =>(w'.cell? ⟨w.heap.size,0,none⟩=some (.bool false)∧w'.cell? ⟨w.heap.size,1,none⟩=some (.slice A n c))∧(w'.cell? ⟨w.heap.size+1,0,none⟩=some (.bool true)∧w'.cell? ⟨w.heap.size+1,1,none⟩=some (.slice B m d))∧(w'.cell? ⟨w.heap.size+1+1,0,none⟩=some (cellD w' (w.heap.size+1+1) 0)∧w'.cell? ⟨w.heap.size+1+1,1,none⟩=some (cellD w' (w.heap.size+1+1) 1))∧w'.frozen? ⟨w.heap.size+1+1,0,none⟩=false∧w'.frozen? ⟨w.heap.size+1+1,1,none⟩=false) (first | exact⟨bx2 (T:=29) bts,bx2 (T:=29) bts,Wk.out2 (T:=29) bts⟩) (first |(go_at_call 171;with_reducible refine(natSub_any _ (k.mg.bl slc) (h.mg.bl slc) hm (Nat.le_of_lt hle.out)).mono ?_;rintro e w3 ⟨A1,k1,c1,rfl,hO,hb3⟩) |(go_at_call 154;with_reducible refine(signed_any _ _ (hO.rd.bl slc)).mono ?_;rintro e w4 ⟨s',rfl,hs',hb4⟩))
  have hg:w.heap.size+1+1 < w4.heap.size:=Wk.lt (k:=2) (T:=29) (by exact bts)
  have hrl:Wk 2 29 (w.heap.size+1+1) w4:=bts
  have hbl:Bl w w4:=slc
  obtain⟨v0,x0⟩:=hrl.val_ (i:=0) (by omega)
  obtain⟨v1,x1⟩:=hrl.val_ (i:=1) (by omega)
  have hz:w.heap.size+1+1 < W.heap.size:=hr.lt
  have hO4:OwB 3 (w.heap.size+1+1+1) w4 s' A1 k1 c1 (x+y):=⟨(add_diff2 hs.out ht.out rfl (Nat.le_of_lt hle.out) hs'.out).1,by rw[(add_diff2 hs.out ht.out rfl (Nat.le_of_lt hle.out) hs'.out).2];exact(hO.bl hb4).mono hz⟩
  go_wp2_with fail
  refine bodyPost_ret (v:=.agg #[.bool s',.slice A1 k1 c1]) (by simp[results,Tryz.results163,go_sem,x0,x1]) rfl ⟨_,_,_,_,rfl,((hO4.far (by simp) _).far (by simp) _).mono (by omega),slc⟩
set_option maxRecDepth 100000 in
set_option maxHeartbeats 4000000 in
theorem bigAdd_sub_false (w:World) {A:Option Addr}{n c:Nat}{x:Int}{B:Option Addr}{m d:Nat}{y:Int}(h:IsB w false A n c x) (k:IsB w true B m d y) (hn:n≤1048576) (hm:m≤1048576) (hle:y.natAbs≤x.natAbs) :
    Calls Tryz.prog 163 #[.agg #[.bool false,.slice A n c],.agg #[.bool true,.slice B m d]] w fun e w'=> ∃ s' A' n' c',e=.returned (.agg #[.bool s',.slice A' n' c'])∧OwB 3 w.heap.size w' s' A' n' c' (x+y)∧Bl w w':=by
  have hs:=Lib.hid h.1
  have ht:=Lib.hid k.1
  have hcc:0≤cmpI (x.natAbs:Int) (y.natAbs:Int):=by unfold cmpI;split <;> (try split) <;> omega
  have hle:=Lib.hid hle;rename_i h_;clear h_
  generalize hcd:cmpI (x.natAbs:Int) (y.natAbs:Int)=cc at hcc
  go_enter Tryz.func163,Tryz.ntmps163
  go_wp2_with fail
  refine calls_gen (fun W=> Bl w W∧Blk W (w.heap.size) 29 #[.bool false,.slice A n c]∧Blk W (w.heap.size+1) 29 #[.bool true,.slice B m d]∧Wk 2 29 (w.heap.size+1+1) W) ⟨slc,bts,bts,bts⟩ ?_
  rintro W ⟨hbW,hx1,hx2,hr⟩
  obtain⟨j0,j1⟩:=bx2 hx1
  obtain⟨j2,j3⟩:=bx2 hx2
  refine(natCmp_any _ (h.mg.bl hbW) (k.mg.bl hbW) (by omega) (by omega)).mono ?_
  rw[hcd]
  rintro e w2 ⟨rfl,q,rfl⟩
  clear hcd
  go_wp2_with fail
  go_region_held3 (fun w' =>(w'.cell? ⟨w.heap.size,0,none⟩=some (.bool false)∧w'.cell? ⟨w.heap.size,1,none⟩=some (.slice A n c))∧(w'.cell? ⟨w.heap.size+1,0,none⟩=some (.bool true)∧w'.cell? ⟨w.heap.size+1,1,none⟩=some (.slice B m d))∧(w'.cell? ⟨w.heap.size+1+1,0,none⟩=some (cellD w' (w.heap.size+1+1) 0)∧w'.cell? ⟨w.heap.size+1+1,1,none⟩=some (cellD w' (w.heap.size+1+1) 1))∧w'.frozen? ⟨w.heap.size+1+1,0,none⟩=false∧w'.frozen? ⟨w.heap.size+1+1,1,none⟩=false) (first | exact⟨bx2 (T:=29) bts,bx2 (T:=29) bts,Wk.out2 (T:=29) bts⟩) (first |(go_at_call 171;with_reducible refine(natSub_any _ (h.mg.bl slc) (k.mg.bl slc) hn hle.out).mono ?_;rintro e w3 ⟨A1,k1,c1,rfl,hO,hb3⟩) |(go_at_call 154;with_reducible refine(signed_any _ _ (hO.rd.bl slc)).mono ?_;rintro e w4 ⟨s',rfl,hs',hb4⟩))
  have hg:w.heap.size+1+1 < w4.heap.size:=Wk.lt (k:=2) (T:=29) (by exact bts)
  have hrl:Wk 2 29 (w.heap.size+1+1) w4:=bts
  have hbl:Bl w w4:=slc
  obtain⟨v0,x0⟩:=hrl.val_ (i:=0) (by omega)
  obtain⟨v1,x1⟩:=hrl.val_ (i:=1) (by omega)
  have hz:w.heap.size+1+1 < W.heap.size:=hr.lt
  have hO4:OwB 3 (w.heap.size+1+1+1) w4 s' A1 k1 c1 (x+y):=⟨(add_diff hs.out ht.out rfl hle.out hs'.out).1,by rw[(add_diff hs.out ht.out rfl hle.out hs'.out).2];exact(hO.bl hb4).mono hz⟩
  go_wp2_with fail
  refine bodyPost_ret (v:=.agg #[.bool s',.slice A1 k1 c1]) (by simp[results,Tryz.results163,go_sem,x0,x1]) rfl ⟨_,_,_,_,rfl,((hO4.far (by simp) _).far (by simp) _).mono (by omega),slc⟩

theorem bigAdd_any (w:World) {s:Bool}{A:Option Addr}{n c:Nat}{x:Int}{t:Bool}{B:Option Addr}{m d:Nat}{y:Int}(h:IsB w s A n c x) (k:IsB w t B m d y) (hn:n≤1048576) (hm:m≤1048576) :
    Calls Tryz.prog 163 #[.agg #[.bool s,.slice A n c],.agg #[.bool t,.slice B m d]] w fun e w'=> ∃ s' A' n' c',e=.returned (.agg #[.bool s',.slice A' n' c'])∧OwB 3 w.heap.size w' s' A' n' c' (x+y)∧Bl w w':=by
  rcases s with _ | _ <;> rcases t with _ | _
  · exact bigAdd_same_false w h k hn hm
  · rcases Nat.lt_or_ge x.natAbs y.natAbs with hle | hle
    · exact bigAdd_bus_false w h k hn hm hle
    · exact bigAdd_sub_false w h k hn hm hle
  · rcases Nat.lt_or_ge x.natAbs y.natAbs with hle | hle
    · exact bigAdd_bus_true w h k hn hm hle
    · exact bigAdd_sub_true w h k hn hm hle
  · exact bigAdd_same_true w h k hn hm



theorem natOf_int (w:World) {u:Int}(N:Nat) (hu:u=(N:Int)) (hN:N < 18446744073709551616) :
    Calls Tryz.prog 162 #[.int .u64 u] w fun e w'=> ∃ A n c,e=.returned (.slice A n c)∧OwI 3 w.heap.size w' A n c (ints (dig N))∧Bl w w':=by
  subst hu
  exact natOf_any w N hN
set_option maxRecDepth 100000 in
set_option maxHeartbeats 1600000 in
theorem BigIntOf_any (w:World) (x:Int) (h1 : -9223372036854775808≤x) (h2:x≤9223372036854775807) :
    Calls Tryz.prog 141 #[.int .i64 x] w fun e w'=> ∃ s' A' n' c',e=.returned (.agg #[.bool s',.slice A' n' c'])∧OwB 3 w.heap.size w' s' A' n' c' x∧Bl w w':=by
  rcases Int.lt_or_le x 0 with hx | hx
  · skip
    have hu:Hid (IntKind.u64.wrap (-IntKind.u64.wrap x)=((x.natAbs:Nat):Int)):=by unfold Hid;simp[IntKind.wrap,IntKind.bits,IntKind.signed];omega
    go_enter Tryz.func141,Tryz.ntmps141
    go_wp2_with fail
    refine(natOf_int _ x.natAbs hu.out (by omega)).mono ?_
    rintro e w3 ⟨A1,k1,c1,rfl,hO,hb3⟩
    have hr3:Wk 2 29 w.heap.size w3:=bts
    have hz:=hr3.lt
    have hz1:w.heap.size+1≤(w.alloc (.cells #[.bool false,.slice none 0 0] 29)).heap.size:=by simp
    have hO1:OwI 3 (w.heap.size+1) w3 A1 k1 c1 (ints (dig x.natAbs)):=hO.mono hz1
    have hb3:Bl w w3:=slc
    clear hO
    go_wp2_with fail
    refine(signed_any _ true hO1.rd).mono ?_
    rintro e w4 ⟨s',rfl,hs',hb4⟩
    have hr4:Wk 2 29 w.heap.size w4:=hr3.bl hb4
    obtain⟨v0,x0⟩:=hr4.val_ (i:=0) (by omega)
    obtain⟨v1,x1⟩:=hr4.val_ (i:=1) (by omega)
    have hg:=hr4.lt
    obtain⟨cs4,hB4,hc4⟩:=hr4
    have hf0:=hB4.frozen 0
    have hf1:=hB4.frozen 1
    have hO4:OwB 3 (w.heap.size+1) w4 s' A1 k1 c1 x:=⟨by rw[hs'.out];exact signed_neg rfl (fun _ =>(decide_eq_true hx).symm),hO1.bl hb4⟩
    go_wp2_with fail
    exact bodyPost_ret (v:=.agg #[.bool s',.slice A1 k1 c1]) (by simp[results,Tryz.results141,go_sem,x0,x1]) rfl ⟨_,_,_,_,rfl,((hO4.far (by simp) _).far (by simp) _).mono (by omega),slc⟩
  · skip
    have hu:Hid (x=((x.natAbs:Nat):Int)):=by unfold Hid;omega
    go_enter Tryz.func141,Tryz.ntmps141
    go_wp2_with fail
    refine(natOf_int _ x.natAbs hu.out (by omega)).mono ?_
    rintro e w3 ⟨A1,k1,c1,rfl,hO,hb3⟩
    have hr3:Wk 2 29 w.heap.size w3:=bts
    have hz:=hr3.lt
    have hz1:w.heap.size+1≤(w.alloc (.cells #[.bool false,.slice none 0 0] 29)).heap.size:=by simp
    have hO1:OwI 3 (w.heap.size+1) w3 A1 k1 c1 (ints (dig x.natAbs)):=hO.mono hz1
    have hb3:Bl w w3:=slc
    clear hO
    go_wp2_with fail
    refine(signed_any _ false hO1.rd).mono ?_
    rintro e w4 ⟨s',rfl,hs',hb4⟩
    have hr4:Wk 2 29 w.heap.size w4:=hr3.bl hb4
    obtain⟨v0,x0⟩:=hr4.val_ (i:=0) (by omega)
    obtain⟨v1,x1⟩:=hr4.val_ (i:=1) (by omega)
    have hg:=hr4.lt
    obtain⟨cs4,hB4,hc4⟩:=hr4
    have hf0:=hB4.frozen 0
    have hf1:=hB4.frozen 1
    have hO4:OwB 3 (w.heap.size+1) w4 s' A1 k1 c1 x:=⟨by rw[hs'.out];exact signed_neg rfl (fun _ =>(decide_eq_false (by omega)).symm),hO1.bl hb4⟩
    go_wp2_with fail
    exact bodyPost_ret (v:=.agg #[.bool s',.slice A1 k1 c1]) (by simp[results,Tryz.results141,go_sem,x0,x1]) rfl ⟨_,_,_,_,rfl,((hO4.far (by simp) _).far (by simp) _).mono (by omega),slc⟩

theorem tdiv_exact (x:Int) (g:Nat) (hg:g ∣ x.natAbs):x.tdiv (g:Int)=x / (g:Int):=by
  have h:(g:Int) ∣ x:=Int.ofNat_dvd_left.2 hg
  exact Int.tdiv_eq_ediv_of_dvd h
theorem ofFrac_fit {x:Int}{D:Nat}(h1:x.natAbs≤4611686018427387904) (h4:D≤4611686018427387904):ofFrac x D=raw (x / (Nat.gcd x.natAbs D:Int)) (D / Nat.gcd x.natAbs D):=by
  unfold ofFrac
  have big:(4611686018427387904:Nat) < Bs ^ 24:=by decide
  rw[if_pos ⟨dig_len_le.2 (Nat.lt_of_le_of_lt (Nat.div_le_self _ _) (by omega)),dig_len_le.2 (Nat.lt_of_le_of_lt (Nat.div_le_self _ _) (by omega))⟩]
set_option maxRecDepth 100000 in
set_option maxHeartbeats 4000000 in
theorem ofInts_any (w:World) (x:Int) (D:Nat) (h1 : -4611686018427387904≤x) (h2:x≤4611686018427387904) (h3:0 < D) (h4:D≤4611686018427387904) :
    Calls Tryz.prog 145 #[.int .i64 x,.int .i64 (D:Int)] w fun e w'=> ∃ s' A' n' c' B' m' d',e=.returned (.agg #[.bool s',.slice A' n' c',.slice B' m' d'])∧OwR 3 w.heap.size w' s' A' n' c' B' m' d' (ofFrac x D)∧Bl w w':=by
  have hg0:=gcd_pos_den (n:=x.natAbs) h3
  have hfit:=ofFrac_fit (x:=x) (D:=D) (by omega) h4
  have hgx:Nat.gcd x.natAbs D ∣ x.natAbs:=Nat.gcd_dvd_left _ _
  have hgle:Nat.gcd x.natAbs D≤D:=Nat.le_of_dvd h3 (Nat.gcd_dvd_right _ _)
  have hyn:=natAbs_ediv_gcd x _ hgx
  have hyt:=tdiv_exact x _ hgx
  generalize hgd:Nat.gcd x.natAbs D=g at *
  have hyl:x.natAbs / g≤x.natAbs:=Nat.div_le_self _ _
  have hEl:D / g≤D:=Nat.div_le_self _ _
  obtain⟨y,hy⟩:∃ y,y=x / (g:Int):=⟨_,rfl⟩
  obtain⟨E,hE⟩:∃ E,E=D / g:=⟨_,rfl⟩
  rw[← hy,← hE] at hfit
  rw[← hy] at hyn hyt
  rw[← hE] at hEl
  have hfin:=Lib.hid hfit
  have hy1 : -9223372036854775808≤y:=by omega
  have hy2:y≤9223372036854775807:=by omega
  have hE2:E < 18446744073709551616:=by omega
  have e2:IntKind.i64.wrap (x.tdiv (g:Int))=y:=by rw[hyt];simp[IntKind.wrap,IntKind.bits,IntKind.signed];omega
  have hE4:Hid (IntKind.u64.wrap (IntKind.i64.wrap ((D:Int) / (g:Int)))=(E:Int)):=by unfold Hid;rw[show (D:Int) / (g:Int)=(E:Int) from by rw[hE];rfl];simp[IntKind.wrap,IntKind.bits,IntKind.signed];omega
  have hgi:0 < (g:Int):=by omega
  have hgn:((g:Int) == 0)=false:=by simp;omega
  have hgn2:(g:Int)≠0:=by omega
  have hgn3:g≠0:=by omega
  have hgd:=Lib.hid hgd;rename_i h_;clear h_
  clear hE hy hfit hyn hyt hgx hEl hyl
  rcases Int.lt_or_le x 0 with hx0 | hx0
  · skip
    have hmx:x < -x:=by omega
    have hu:Hid (-x=((x.natAbs:Nat):Int)):=by unfold Hid;omega
    go_enter Tryz.func145,Tryz.ntmps145
    go_wp2_with fail
    refine(gcd_int _ x.natAbs D hu.out (by omega) (by omega)).mono ?_
    rintro e w5 ⟨rfl,q5,rfl⟩
    rw[hgd.out]
    go_wp2_with fail
    refine wp_gen (fun W=> Bl w W∧Wk 3 31 w.heap.size W) ⟨slc,bts⟩ ?_
    rintro W ⟨hbW,hr⟩
    go_region_held3 (fun w' =>(w'.cell? ⟨w.heap.size,0,none⟩=some (cellD w' (w.heap.size) 0)∧w'.cell? ⟨w.heap.size,1,none⟩=some (cellD w' (w.heap.size) 1)∧w'.cell? ⟨w.heap.size,2,none⟩=some (cellD w' (w.heap.size) 2))∧w'.frozen? ⟨w.heap.size,0,none⟩=false∧w'.frozen? ⟨w.heap.size,1,none⟩=false∧w'.frozen? ⟨w.heap.size,2,none⟩=false) (first | exact(Wk.out3 (T:=31) bts)) (first |(go_at_call 141;with_reducible refine(BigIntOf_any _ y hy1 hy2).mono ?_;rintro e w3 ⟨s',A1,k1,c1,rfl,hO1,hb3⟩) |(go_at_call 162;with_reducible refine(natOf_int _ E hE4.out hE2).mono ?_;rintro e w4 ⟨A2,k2,c2,rfl,hO2,hb4⟩))
    have hrl:Wk 3 31 (w.heap.size) w4:=bts
    have hbl:Bl w w4:=slc
    obtain⟨v0,x0⟩:=hrl.val_ (i:=0) (by omega)
    obtain⟨v1,x1⟩:=hrl.val_ (i:=1) (by omega)
    obtain⟨v2,x2⟩:=hrl.val_ (i:=2) (by omega)
    have hg:=hrl.lt
    have hz:w.heap.size+1≤w3.heap.size:=Nat.le_trans hr.lt (show W.heap.size≤w3.heap.size from (Bl.size hb3:W.drew.heap.size≤_))
    have hR:OwR 3 (w.heap.size+1) w4 s' A1 k1 c1 A2 k2 c2 (ofFrac x D):=by
      rw[hfin.out]
      exact OwR.two' (r:=raw y E) (hO1.mono (show w.heap.size+1≤W.drew.heap.size from hr.lt)).2 hO2 hb4 hz hO1.1
    go_wp2_with fail
    exact bodyPost_ret (v:=.agg #[.bool s',.slice A1 k1 c1,.slice A2 k2 c2]) (by simp[results,Tryz.results145,go_sem,x0,x1,x2]) rfl ⟨_,_,_,_,_,_,_,rfl,(((hR.far (by simp) _).far (by simp) _).far (by simp) _).mono (by omega),slc⟩
  · skip
    have hmx:¬ x < -x:=by omega
    have hu:Hid (x=((x.natAbs:Nat):Int)):=by unfold Hid;omega
    go_enter Tryz.func145,Tryz.ntmps145
    go_wp2_with fail
    refine(gcd_int _ x.natAbs D hu.out (by omega) (by omega)).mono ?_
    rintro e w5 ⟨rfl,q5,rfl⟩
    rw[hgd.out]
    go_wp2_with fail
    refine wp_gen (fun W=> Bl w W∧Wk 3 31 w.heap.size W) ⟨slc,bts⟩ ?_
    rintro W ⟨hbW,hr⟩
    go_region_held3 (fun w' =>(w'.cell? ⟨w.heap.size,0,none⟩=some (cellD w' (w.heap.size) 0)∧w'.cell? ⟨w.heap.size,1,none⟩=some (cellD w' (w.heap.size) 1)∧w'.cell? ⟨w.heap.size,2,none⟩=some (cellD w' (w.heap.size) 2))∧w'.frozen? ⟨w.heap.size,0,none⟩=false∧w'.frozen? ⟨w.heap.size,1,none⟩=false∧w'.frozen? ⟨w.heap.size,2,none⟩=false) (first | exact(Wk.out3 (T:=31) bts)) (first |(go_at_call 141;with_reducible refine(BigIntOf_any _ y hy1 hy2).mono ?_;rintro e w3 ⟨s',A1,k1,c1,rfl,hO1,hb3⟩) |(go_at_call 162;with_reducible refine(natOf_int _ E hE4.out hE2).mono ?_;rintro e w4 ⟨A2,k2,c2,rfl,hO2,hb4⟩))
    have hrl:Wk 3 31 (w.heap.size) w4:=bts
    have hbl:Bl w w4:=slc
    obtain⟨v0,x0⟩:=hrl.val_ (i:=0) (by omega)
    obtain⟨v1,x1⟩:=hrl.val_ (i:=1) (by omega)
    obtain⟨v2,x2⟩:=hrl.val_ (i:=2) (by omega)
    have hg:=hrl.lt
    have hz:w.heap.size+1≤w3.heap.size:=Nat.le_trans hr.lt (show W.heap.size≤w3.heap.size from (Bl.size hb3:W.drew.heap.size≤_))
    have hR:OwR 3 (w.heap.size+1) w4 s' A1 k1 c1 A2 k2 c2 (ofFrac x D):=by
      rw[hfin.out]
      exact OwR.two' (r:=raw y E) (hO1.mono (show w.heap.size+1≤W.drew.heap.size from hr.lt)).2 hO2 hb4 hz hO1.1
    go_wp2_with fail
    exact bodyPost_ret (v:=.agg #[.bool s',.slice A1 k1 c1,.slice A2 k2 c2]) (by simp[results,Tryz.results145,go_sem,x0,x1,x2]) rfl ⟨_,_,_,_,_,_,_,rfl,(((hR.far (by simp) _).far (by simp) _).far (by simp) _).mono (by omega),slc⟩



theorem OwR.zero (T:TypeId) (b0:Nat) (w:World):OwR T b0 w false none 0 0 none 0 0 zR :=
  ⟨[],⟨rfl,[],[],⟨RdI.nil _ _ _,.inl ⟨rfl,rfl⟩⟩,⟨RdI.nil _ _ _,.inl ⟨rfl,rfl⟩⟩,rfl⟩,Fp.nil _ _⟩
theorem ofFrac_one {x:Int}{D:Nat}(h:Nat.gcd x.natAbs D=1):ofFrac x D=if (dig x.natAbs).length≤24∧(dig D).length≤24 then raw x D else zR:=by
  unfold ofFrac
  rw[h]
  simp only[Nat.div_one,Int.natCast_one,Int.ediv_one]
set_option maxRecDepth 100000 in
set_option maxHeartbeats 4000000 in
theorem reduced_one (w:World) {b0:Nat}{s:Bool}{A:Option Addr}{n c:Nat}{x:Int}{B:Option Addr}{m d:Nat}{D:Nat}(h:OwR 3 b0 w s A n c B m d (raw x D)) (_hb0:b0≤w.heap.size) (hn:n≤1048576) (hm:m≤1048576) (hg1:Nat.gcd x.natAbs D=1) :
    Calls Tryz.prog 146 #[.agg #[.bool s,.slice A n c],.slice B m d] w fun e w'=> ∃ s' A' n' c' B' m' d',e=.returned (.agg #[.bool s',.slice A' n' c',.slice B' m' d'])∧OwR 3 b0 w' s' A' n' c' B' m' d' (ofFrac x D)∧Bl w w':=by
  have hfin:=ofFrac_one hg1
  have l1:(dig x.natAbs).length=n:=h.rd.mag.lenN
  have l2:(dig D).length=m:=h.rd.den.lenN
  rw[l1,l2] at hfin
  clear l1 l2
  have hgd:=Lib.hid hg1
  clear hg1
  by_cases hn24:n≤24
  · have hi:decide ((24:Int) < (n:Int))=false:=by simp;omega
    by_cases hm24:m≤24
    · have hj:decide ((24:Int) < (m:Int))=false:=by simp;omega
      rw[if_pos ⟨hn24,hm24⟩] at hfin
      have hfin:=Lib.hid hfin;rename_i h_;clear h_
      clear hn24 hm24
      go_enter Tryz.func146,Tryz.ntmps146
      go_wp2_with fail
      refine calls_gen (fun W=> Bl w W∧Blk W (w.heap.size) 29 #[.bool s,.slice A n c]∧Wk 3 31 (w.heap.size+1) W) ⟨slc,bts,bts⟩ ?_
      rintro W ⟨hbW,hx,hr⟩
      refine(natGcd_any _ (h.rd.mag.bl hbW) (h.rd.den.bl hbW) hn hm).mono ?_
      rintro e w2 ⟨A1,k1,c1,rfl,hG,hb2⟩
      rw[hgd.out] at hG
      have hG:=hG.mono (show w.heap.size+1+1≤W.heap.size from hr.lt)
      have hrl:Wk 3 31 (w.heap.size+1) w2:=hr.bl hb2
      have hx:=hx.bl hb2
      have hb2:Bl w w2:=slc
      clear hbW hr
      go_wp2_with fail
      refine(isOne_yes _ hG.rd).mono ?_
      rintro e w3 ⟨rfl,q3,rfl⟩
      obtain⟨v0,x0⟩:=hrl.val_ (i:=0) (by omega)
      obtain⟨v1,x1⟩:=hrl.val_ (i:=1) (by omega)
      obtain⟨v2,x2⟩:=hrl.val_ (i:=2) (by omega)
      have hg:=hrl.lt
      obtain⟨cs4,hB4,hc4⟩:=hrl
      have hf0:=hB4.frozen 0
      have hf1:=hB4.frozen 1
      have hf2:=hB4.frozen 2
      obtain⟨j0,j1⟩:=bx2 hx
      go_wp2_with fail
      exact bodyPost_ret (v:=.agg #[.bool s,.slice A n c,.slice B m d]) (by simp[results,Tryz.results146,go_sem,x0,x1,x2]) rfl ⟨_,_,_,_,_,_,_,rfl,by rw[hfin.out];exact h.bl slc,slc⟩
    · have hj:decide ((24:Int) < (m:Int))=true:=by simp;omega
      rw[if_neg (fun hh=> hm24 hh.2)] at hfin
      have hfin:=Lib.hid hfin;rename_i h_;clear h_
      clear hn24 hm24
      go_enter Tryz.func146,Tryz.ntmps146
      go_wp2_with fail
      refine calls_gen (fun W=> Bl w W∧Blk W (w.heap.size) 29 #[.bool s,.slice A n c]∧Wk 3 31 (w.heap.size+1) W) ⟨slc,bts,bts⟩ ?_
      rintro W ⟨hbW,hx,hr⟩
      refine(natGcd_any _ (h.rd.mag.bl hbW) (h.rd.den.bl hbW) hn hm).mono ?_
      rintro e w2 ⟨A1,k1,c1,rfl,hG,hb2⟩
      rw[hgd.out] at hG
      have hG:=hG.mono (show w.heap.size+1+1≤W.heap.size from hr.lt)
      have hrl:Wk 3 31 (w.heap.size+1) w2:=hr.bl hb2
      have hx:=hx.bl hb2
      have hb2:Bl w w2:=slc
      clear hbW hr
      go_wp2_with fail
      refine(isOne_yes _ hG.rd).mono ?_
      rintro e w3 ⟨rfl,q3,rfl⟩
      obtain⟨v0,x0⟩:=hrl.val_ (i:=0) (by omega)
      obtain⟨v1,x1⟩:=hrl.val_ (i:=1) (by omega)
      obtain⟨v2,x2⟩:=hrl.val_ (i:=2) (by omega)
      have hg:=hrl.lt
      obtain⟨cs4,hB4,hc4⟩:=hrl
      have hf0:=hB4.frozen 0
      have hf1:=hB4.frozen 1
      have hf2:=hB4.frozen 2
      obtain⟨j0,j1⟩:=bx2 hx
      go_wp2_with fail
      exact bodyPost_ret (v:=.agg #[.bool false,.slice none 0 0,.slice none 0 0]) (by simp[results,Tryz.results146,go_sem,x0,x1,x2]) rfl ⟨_,_,_,_,_,_,_,rfl,by rw[hfin.out];exact OwR.zero _ _ _,slc⟩
  · have hi:decide ((24:Int) < (n:Int))=true:=by simp;omega
    rw[if_neg (fun hh=> hn24 hh.1)] at hfin
    have hfin:=Lib.hid hfin;rename_i h_;clear h_
    clear hn24
    go_enter Tryz.func146,Tryz.ntmps146
    go_wp2_with fail
    refine calls_gen (fun W=> Bl w W∧Blk W (w.heap.size) 29 #[.bool s,.slice A n c]∧Wk 3 31 (w.heap.size+1) W) ⟨slc,bts,bts⟩ ?_
    rintro W ⟨hbW,hx,hr⟩
    refine(natGcd_any _ (h.rd.mag.bl hbW) (h.rd.den.bl hbW) hn hm).mono ?_
    rintro e w2 ⟨A1,k1,c1,rfl,hG,hb2⟩
    rw[hgd.out] at hG
    have hG:=hG.mono (show w.heap.size+1+1≤W.heap.size from hr.lt)
    have hrl:Wk 3 31 (w.heap.size+1) w2:=hr.bl hb2
    have hx:=hx.bl hb2
    have hb2:Bl w w2:=slc
    clear hbW hr
    go_wp2_with fail
    refine(isOne_yes _ hG.rd).mono ?_
    rintro e w3 ⟨rfl,q3,rfl⟩
    obtain⟨v0,x0⟩:=hrl.val_ (i:=0) (by omega)
    obtain⟨v1,x1⟩:=hrl.val_ (i:=1) (by omega)
    obtain⟨v2,x2⟩:=hrl.val_ (i:=2) (by omega)
    have hg:=hrl.lt
    obtain⟨cs4,hB4,hc4⟩:=hrl
    have hf0:=hB4.frozen 0
    have hf1:=hB4.frozen 1
    have hf2:=hB4.frozen 2
    obtain⟨j0,j1⟩:=bx2 hx
    go_wp2_with fail
    exact bodyPost_ret (v:=.agg #[.bool false,.slice none 0 0,.slice none 0 0]) (by simp[results,Tryz.results146,go_sem,x0,x1,x2]) rfl ⟨_,_,_,_,_,_,_,rfl,by rw[hfin.out];exact OwR.zero _ _ _,slc⟩

set_option maxRecDepth 100000 in
set_option maxHeartbeats 4000000 in
theorem reduced_more (w:World) {b0:Nat}{s:Bool}{A:Option Addr}{n c:Nat}{x:Int}{B:Option Addr}{m d:Nat}{D:Nat}(h:OwR 3 b0 w s A n c B m d (raw x D)) (hb0:b0≤w.heap.size) (hn:n≤1048576) (hm:m≤1048576) (hD:0 < D) (hg1:Nat.gcd x.natAbs D≠1) :
    Calls Tryz.prog 146 #[.agg #[.bool s,.slice A n c],.slice B m d] w fun e w'=> ∃ s' A' n' c' B' m' d',e=.returned (.agg #[.bool s',.slice A' n' c',.slice B' m' d'])∧OwR 3 b0 w' s' A' n' c' B' m' d' (ofFrac x D)∧Bl w w':=by
  have hg0:=gcd_pos_den (n:=x.natAbs) hD
  have hgx:Nat.gcd x.natAbs D ∣ x.natAbs:=Nat.gcd_dvd_left _ _
  have hyn:=natAbs_ediv_gcd x _ hgx
  have hys:=ediv_neg_iff x _ hg0
  have hfin:ofFrac x D=if (dig (x.natAbs / Nat.gcd x.natAbs D)).length≤24∧(dig (D / Nat.gcd x.natAbs D)).length≤24 then raw (x / (Nat.gcd x.natAbs D:Int)) (D / Nat.gcd x.natAbs D) else zR:=rfl
  generalize hgd:Nat.gcd x.natAbs D=g at *
  have hs:=Lib.hid h.rd.neg
  have hraw:Hid (raw (x / (g:Int)) (D / g)=⟨s,ints (dig (x.natAbs / g)),ints (dig (D / g))⟩):=by
    unfold Hid raw
    rw[hyn,hs.out]
    simp only[raw]
    congr 1
    exact decide_eq_decide.2 hys
  have hgd:=Lib.hid hgd;rename_i h_;clear h_
  have hg1:=Lib.hid hg1;rename_i h_;clear h_
  have hfin:=Lib.hid hfin;rename_i h_;clear h_
  clear hyn hys hgx
  go_enter Tryz.func146,Tryz.ntmps146
  go_wp2_with fail
  refine calls_gen (fun W=> Bl w W∧Blk W (w.heap.size) 29 #[.bool s,.slice A n c]∧Wk 3 31 (w.heap.size+1) W) ⟨slc,bts,bts⟩ ?_
  rintro W ⟨hbW,hx,hr⟩
  refine(natGcd_any _ (h.rd.mag.bl hbW) (h.rd.den.bl hbW) hn hm).mono ?_
  rintro e w2 ⟨A1,k1,c1,rfl,hG,hb2⟩
  rw[hgd.out] at hG
  have hG:=hG.mono (show w.heap.size+1+1≤W.heap.size from hr.lt)
  have hrl:Wk 3 31 (w.heap.size+1) w2:=hr.bl hb2
  have hx:=hx.bl hb2
  have hb2:Bl w w2:=slc
  clear hbW hr
  go_wp2_with fail
  refine(isOne_no _ hG.rd hg1.out).mono ?_
  rintro e w3 ⟨rfl,q3,rfl⟩
  obtain⟨j0,j1⟩:=bx2 hx
  have hx3:=hx.drewN q3
  have hrl:=hrl.drewN q3
  have hG:=hG.q ⟨q3,rfl⟩
  have hb3:Bl w (w2.drewN q3):=slc
  generalize w2.drewN q3=w3 at *
  have hgl:k1≤1048576:=by
    have h1:=hG.rd.lenN
    have h2:=dig_len_mono (Nat.le_of_dvd hD (hgd.out ▸ Nat.gcd_dvd_right x.natAbs D))
    have h3:(dig D).length=m:=h.rd.den.lenN
    omega
  have hz3:w.heap.size+1+1≤w3.heap.size:=hrl.lt
  clear hb2 hx j0 j1
  obtain⟨j0,j1⟩:=bx2 hx3
  have hfx:=hx3.frozen 1
  go_wp2_with fail
  refine(natDiv_any _ (h.rd.mag.bl hb3) hG.rd hn hgl hg0).mono ?_
  rintro e w4 ⟨A2,k2,c2,A3,k3,c3,rfl,hQ,_,hb4⟩
  have hx4:=hx3.bl hb4
  have hr4:=hrl.bl hb4
  have hb5:=hb3.next hb4
  have hQ:=(hQ.mono hz3).far (p:=⟨w.heap.size,1,none⟩) (by simp;omega) (.slice A2 k2 c2)
  have hG5:=(hG.bl hb4).far (p:=⟨w.heap.size,1,none⟩) (by simp;omega) (.slice A2 k2 c2)
  have hx5:Blk (w4.setCell ⟨w.heap.size,1,none⟩ (.slice A2 k2 c2)) w.heap.size 29 #[.bool s,.slice A2 k2 c2]:=hx4.set_ 1 _
  have hr5:=hr4.far (p:=⟨w.heap.size,1,none⟩) (by simp) (.slice A2 k2 c2)
  have hb6:Bl w (w4.setCell ⟨w.heap.size,1,none⟩ (.slice A2 k2 c2)):=hb5.set (by simp) _
  clear hx3 hrl hb3 hG hb4 hr4 hb5 j0 j1 hfx
  obtain⟨j0,j1⟩:=bx2 hx4
  have hfx:=hx4.frozen 1
  go_wp2_with fail
  have hz6:w.heap.size+1+1≤(w4.setCell ⟨w.heap.size,1,none⟩ (.slice A2 k2 c2)).heap.size:=hr5.lt
  clear hx4 j0 j1 hfx
  generalize w4.setCell ⟨w.heap.size,1,none⟩ (.slice A2 k2 c2)=w5 at *
  refine(natDiv_any _ (h.rd.den.bl hb6) hG5.rd hm hgl hg0).mono ?_
  rintro e w6 ⟨A4,k4,c4,A5,k5,c5,rfl,hQ2,_,hb7⟩
  have hR:OwR 3 (w.heap.size+1+1) w6 s A2 k2 c2 A4 k4 c4 (raw (x / (g:Int)) (D / g)):=by
    rw[hraw.out]
    exact OwR.two hQ hQ2 hb7 hz6
  have l1:(dig (x.natAbs / g)).length=k2:=hQ.rd.lenN
  have l2:(dig (D / g)).length=k4:=hQ2.rd.lenN
  have hcapQ:=hQ.rd.small
  have hcapQ2:=hQ2.rd.small
  have hfin:=hfin.out
  rw[l1,l2] at hfin
  have hx6:=hx5.bl hb7
  have hrl:=hr5.bl hb7
  have hb8:=hb6.next hb7
  clear l1 l2 hQ hQ2 hG5 hx5 hr5 hb6 hb7
  have hx:=hx6
  obtain⟨v0,x0⟩:=hrl.val_ (i:=0) (by omega)
  obtain⟨v1,x1⟩:=hrl.val_ (i:=1) (by omega)
  obtain⟨v2,x2⟩:=hrl.val_ (i:=2) (by omega)
  have hg:=hrl.lt
  obtain⟨cs4,hB4,hc4⟩:=hrl
  have hf0:=hB4.frozen 0
  have hf1:=hB4.frozen 1
  have hf2:=hB4.frozen 2
  obtain⟨j0,j1⟩:=bx2 hx
  by_cases hn24:k2≤24
  · have hi:decide ((24:Int) < (k2:Int))=false:=by simp;omega
    by_cases hm24:k4≤24
    · have hj:decide ((24:Int) < (k4:Int))=false:=by simp;omega
      rw[if_pos ⟨hn24,hm24⟩] at hfin
      have hfin:=Lib.hid hfin;rename_i h_;clear h_
      clear hn24 hm24
      go_wp2_with fail
      exact bodyPost_ret (v:=.agg #[.bool s,.slice A2 k2 c2,.slice A4 k4 c4]) (by simp[results,Tryz.results146,go_sem,x0,x1,x2]) rfl ⟨_,_,_,_,_,_,_,rfl,by rw[hfin.out];exact(((hR.far (by simp) _).far (by simp) _).far (by simp) _).mono (by omega),slc⟩
    · have hj:decide ((24:Int) < (k4:Int))=true:=by simp;omega
      rw[if_neg (fun hh=> hm24 hh.2)] at hfin
      have hfin:=Lib.hid hfin;rename_i h_;clear h_
      clear hn24 hm24
      go_wp2_with fail
      exact bodyPost_ret (v:=.agg #[.bool false,.slice none 0 0,.slice none 0 0]) (by simp[results,Tryz.results146,go_sem,x0,x1,x2]) rfl ⟨_,_,_,_,_,_,_,rfl,by rw[hfin.out];exact OwR.zero _ _ _,slc⟩
  · have hi:decide ((24:Int) < (k2:Int))=true:=by simp;omega
    rw[if_neg (fun hh=> hn24 hh.1)] at hfin
    have hfin:=Lib.hid hfin;rename_i h_;clear h_
    clear hn24
    go_wp2_with fail
    exact bodyPost_ret (v:=.agg #[.bool false,.slice none 0 0,.slice none 0 0]) (by simp[results,Tryz.results146,go_sem,x0,x1,x2]) rfl ⟨_,_,_,_,_,_,_,rfl,by rw[hfin.out];exact OwR.zero _ _ _,slc⟩
theorem reduced_any (w:World) {b0:Nat}{s:Bool}{A:Option Addr}{n c:Nat}{x:Int}{B:Option Addr}{m d:Nat}{D:Nat}(h:OwR 3 b0 w s A n c B m d (raw x D)) (hb0:b0≤w.heap.size) (hn:n≤1048576) (hm:m≤1048576) (hD:0 < D) :
    Calls Tryz.prog 146 #[.agg #[.bool s,.slice A n c],.slice B m d] w fun e w'=> ∃ s' A' n' c' B' m' d',e=.returned (.agg #[.bool s',.slice A' n' c',.slice B' m' d'])∧OwR 3 b0 w' s' A' n' c' B' m' d' (ofFrac x D)∧Bl w w':=by
  by_cases hg:Nat.gcd x.natAbs D=1
  · exact reduced_one w h hb0 hn hm hg
  · exact reduced_more w h hb0 hn hm hD hg
end

end Go.Proofs.YtjaapemopbbfaaaGreat
