/- Lemmas. -/
import Derived.Test.YtjaapemopbbfaaaGreatRows
import Derived.Test.YtjaapemopbbfaaaGreatPWorstShapeM15
namespace Go.Proofs.YtjaapemopbbfaaaGreat
section
open Go.RowKit

set_option maxRecDepth 100000 in
set_option maxHeartbeats 8000000 in
theorem l02Gcd_any (w:World) {A B:Option Addr}{n m c d N M:Nat}(ha:IsN w A n c N) (hb:IsN w B m d M) (hn:n≤1048570) (hm:m≤1048570) :
    Calls Tryz.prog 93 #[.slice A n c,.slice B m d] w fun e w'=> ∃ A' n' c',e=.returned (.slice A' n' c')∧OwI 3 w.heap.size w' A' n' c' (ints (dig (Nat.gcd N M)))∧Bl w w':=by
  go_enter Tryz.func93,Tryz.ntmps93
  go_wp2_with (first |(at_builtin;refine wpList_append_x (w0:=w) info_int Tryz.underlying27 rfl (.tmp 13) (.tmp 14) rfl _ [] rfl (OwL.empty w (Nat.le_refl _) (by simp)) ((Bl.refl w).alloc _) A n c rfl (ints (dig N)) (RdI.alloc ha _) (by simp) (by omega) ?_;intro v1 w1 hown1 hbw1) |(at_builtin;refine wpList_append_x (w0:=w1) info_int Tryz.underlying27 rfl (.tmp 16) (.tmp 17) rfl _ [] rfl (OwL.empty w1 (Nat.le_refl _) (by simp)) ((Bl.refl w1).alloc _) B m d rfl (ints (dig M)) (RdI.alloc (RdI.bl hb hbw1) _) (by simp) (by omega) ?_;intro v2 w2 hown2 hbw2))
  obtain⟨A1,c1,hv1,ho1⟩:=hown1.own (by have:=RdI.len ha;simp;omega)
  have hl1:(([]:List Int) ++ ints (dig N)).length=n:=by have:=RdI.len ha;simpa using this
  rw[hl1,List.nil_append] at ho1
  rw[hl1] at hv1
  subst hv1
  clear hown1 hl1
  obtain⟨A2,c2,hv2,ho2⟩:=hown2.own (by have:=RdI.len hb;simp;omega)
  have hl2:(([]:List Int) ++ ints (dig M)).length=m:=by have:=RdI.len hb;simpa using this
  rw[hl2,List.nil_append] at ho2
  rw[hl2] at hv2
  subst hv2
  clear hown2 hl2
  have ho1:=ho1.bl hbw2
  have ho2:=ho2.mono (show w.heap.size≤w1.heap.size from hbw1.size)
  have hbw:=hbw1.next hbw2
  clear ha hb hbw1 hbw2
  go_loopw [5,6] (fun x y wr=> ∃ (A1 B1:Option Addr) (n1 c1 m1 d1 N1 M1:Nat),x=.slice A1 n1 c1∧y=.slice B1 m1 d1∧OwI 3 w.heap.size wr A1 n1 c1 (ints (dig N1))∧OwI 3 w.heap.size wr B1 m1 d1 (ints (dig M1))∧n1≤1048570∧m1≤1048570∧Hid (Nat.gcd N1 M1=Nat.gcd N M)∧Bl w wr) (fun _ y wr=> numAt wr y)
  case atStart=> exact⟨_,_,_,_,_,_,N,M,rfl,rfl,ho1,ho2,hn,hm,rfl,hbw⟩
  case round =>
    clear ho1 ho2 hbw
    obtain⟨A1,B1,n1,c1,m1,d1,N1,M1,rfl,rfl,ha1,hb1,hn1,hm1,hg,hbw⟩:=hrel
    have hml:=Lib.hid hb1.rd.lenN
    have hnl:=Lib.hid ha1.rd.lenN
    by_cases h0:m1=0
    · subst h0
      have hM:M1=0:=by
        have:=dig_len_pos (n:=M1)
        rw[hml.out] at this
        omega
      have hN:Hid (N1=Nat.gcd N M):=by unfold Hid;rw[← hg.out,hM,Nat.gcd_zero_right]
      clear hM
      go_wp2_with fail
      go_ret
      exact⟨_,_,_,rfl,by rw[← hN.out];exact ha1,hbw⟩
    · have hM:0 < M1:=by
        have:=dig_len_pos (n:=M1)
        rw[hml.out] at this
        omega
      have h0i:0 < (m1:Int):=by omega
      by_cases h3:n1 < 3∧m1 < 3
      · have hN9:N1 < 1000000000000000000:=by
          have:=dig_len_le.1 (show (dig N1).length≤2 by rw[hnl.out];omega)
          rw[Bs_eq] at this
          omega
        have hM9:M1 < 1000000000000000000:=by
          have:=dig_len_le.1 (show (dig M1).length≤2 by rw[hml.out];omega)
          rw[Bs_eq] at this
          omega
        have hi1:n1 < 3:=h3.1
        have hi2:m1 < 3:=h3.2
        clear h3
        go_wp2_with fail
        refine(NatToInt_any _ ha1.rd (by omega)).mono ?_
        rintro e w2 ⟨rfl,hb2⟩
        go_wp2_with fail
        refine(NatToInt_any _ (RdI.bl hb1.rd hb2) (by omega)).mono ?_
        rintro e w3 ⟨rfl,hb3⟩
        go_wp2_with fail
        refine(l02Plain_any _ N1 M1 (by omega) (by omega)).mono ?_
        rintro e w4 ⟨A3,n3,c3,rfl,hO,hb4⟩
        rw[hg.out] at hO
        have hb5:=(hbw.next hb2).next hb3
        go_wp2_with fail
        go_ret
        exact⟨_,_,_,rfl,hO.mono hb5.size,hb5.next hb4⟩
      · have hgn:Hid (Nat.gcd M1 (N1 % M1)=Nat.gcd N M):=by unfold Hid;rw[← hg.out,Nat.gcd_comm N1 M1,Nat.gcd_rec M1 N1,Nat.gcd_comm]
        have hmd:=Nat.mod_lt N1 hM
        have hnm:=numAt_eq hb1.rd
        by_cases h31:n1 < 3
        · have h32:¬ m1 < 3:=fun h=> h3 ⟨h31,h⟩
          clear h3
          go_wp2_with fail
          refine(l02Div_any _ ha1.rd hb1.rd hn1 hm1 hM).mono ?_
          rintro e w2 ⟨A2,n2,c2,A3,n3,c3,rfl,hO2,hO3,hb2⟩
          have hb3:=hbw.next hb2
          have hn3:n3≤1048570:=by
            have h1:=dig_len_mono (Nat.le_of_lt hmd)
            rw[hO3.rd.lenN,hml.out] at h1
            omega
          have hnm3:=numAt_eq hO3.rd
          have hb1':=hb1.bl hb2
          have hO3:=hO3.mono (show w.heap.size≤wr.heap.size from hbw.size)
          go_wp2_with fail
          go_roundw
          case rel=> exact⟨_,_,_,_,_,_,_,_,rfl,rfl,hb1',hO3,hm1,hn3,hgn,hb3⟩
          case measure=> rw[hnm,hnm3];exact hmd
        · clear h3
          go_wp2_with fail
          refine(l02Div_any _ ha1.rd hb1.rd hn1 hm1 hM).mono ?_
          rintro e w2 ⟨A2,n2,c2,A3,n3,c3,rfl,hO2,hO3,hb2⟩
          have hb3:=hbw.next hb2
          have hn3:n3≤1048570:=by
            have h1:=dig_len_mono (Nat.le_of_lt hmd)
            rw[hO3.rd.lenN,hml.out] at h1
            omega
          have hnm3:=numAt_eq hO3.rd
          have hb1':=hb1.bl hb2
          have hO3:=hO3.mono (show w.heap.size≤wr.heap.size from hbw.size)
          go_wp2_with fail
          go_roundw
          case rel=> exact⟨_,_,_,_,_,_,_,_,rfl,rfl,hb1',hO3,hm1,hn3,hgn,hb3⟩
          case measure=> rw[hnm,hnm3];exact hmd

set_option maxHeartbeats 1600000 in
theorem l04One_yes (w:World) {A:Option Addr}{n c:Nat}(h:IsN w A n c 1) :
    Calls Tryz.prog 92 #[.slice A n c] w fun e w'=> e=.returned (.bool true)∧∃ q,w'=w.drewN q:=by
  have hd:dig 1=[1]:=by rw[dig_pos (by omega),show 1 / Bs=0 from by rw[Bs_eq],dig_zero];rfl
  obtain rfl:n=1:=by have:=h.lenN;rw[hd] at this;exact this.symm
  obtain⟨ad,rfl,hlt,hc⟩:=h.atN (k:=0) (by omega)
  rw[hd] at hc
  have hc:w.cell? ad=some (.int .i64 1):=by rw[← Addr.add_zero' ad];exact hc
  clear hd h
  go_enter Tryz.func92,Tryz.ntmps92
  go_wp2_with fail
  go_ret
  exact⟨rfl,0,rfl⟩
set_option maxHeartbeats 1600000 in
theorem l04One_no (w:World) {A:Option Addr}{n c N:Nat}(h:IsN w A n c N) (hN:N≠1) :
    Calls Tryz.prog 92 #[.slice A n c] w fun e w'=> e=.returned (.bool false)∧∃ q,w'=w.drewN q:=by
  have hsm:=h.small
  by_cases h1:n=1
  · subst h1
    obtain⟨ad,rfl,hlt,hc⟩:=h.atN (k:=0) (by omega)
    rw[(one_limb h.lenN).1] at hc
    have hc:w.cell? ad=some (.int .i64 (N:Int)):=by rw[← hc,Addr.add_zero']
    have hne:((N:Int) == 1)=false:=by simp;omega
    clear h hN
    go_enter Tryz.func92,Tryz.ntmps92
    go_wp2_with fail
    go_ret
    exact⟨rfl,0,rfl⟩
  · have hne:((n:Int) == 1)=false:=by simp;omega
    clear h hN h1
    go_enter Tryz.func92,Tryz.ntmps92
    go_wp2_with fail
    go_ret
    exact⟨rfl,0,rfl⟩

set_option maxHeartbeats 1600000 in
theorem sBigIntOk_any (w:World) {s:Bool}{A:Option Addr}{n c:Nat}{l:List Int}(h:RdI w A n c l) :
    Calls Tryz.prog 90 #[.agg #[.bool s,.slice A n c]] w fun e w'=> e=.returned (.bool (okB s l))∧Bl w w':=by
  have hl:=h.len
  have hsm:=h.small
  by_cases hN:OkN l
  · have h1:=okN_of hN
    rcases s with _ | _
    · have h2:=okB_yes (s:=false) ⟨hN,fun e=> by cases e⟩
      rw[h2]
      clear h2 hN hl
      go_enter Tryz.func90,Tryz.ntmps90
      go_wp2_with (go_at_call 91;refine(sNatOk_any _ (h.alloc _)).mono ?_;rw[h1];rintro e w1 ⟨rfl,q,rfl⟩)
      go_ret
      exact⟨rfl,slc⟩
    · rcases Nat.eq_zero_or_pos n with h0 | h0
      · subst h0
        have h2:=okB_no (s:=true) (l:=l) (fun hk=> by have:=hk.2 rfl;omega)
        rw[h2]
        clear h2 hN hl
        go_enter Tryz.func90,Tryz.ntmps90
        go_wp2_with (go_at_call 91;refine(sNatOk_any _ (h.alloc _)).mono ?_;rw[h1];rintro e w1 ⟨rfl,q,rfl⟩)
        go_ret
        exact⟨rfl,slc⟩
      · have h2:=okB_yes (s:=true) ⟨hN,fun _=> by omega⟩
        rw[h2]
        have hi:0 < (n:Int):=by omega
        clear h2 hN hl
        go_enter Tryz.func90,Tryz.ntmps90
        go_wp2_with (go_at_call 91;refine(sNatOk_any _ (h.alloc _)).mono ?_;rw[h1];rintro e w1 ⟨rfl,q,rfl⟩)
        go_ret
        exact⟨rfl,slc⟩
  · have h1:=okN_no hN
    have h2:=okB_no (s:=s) (fun hk=> hN hk.1)
    rw[h2]
    clear h2 hl
    have hN:=Lib.hid hN;rename_i h_;clear h_
    go_enter Tryz.func90,Tryz.ntmps90
    go_wp2_with (go_at_call 91;refine(sNatOk_any _ (h.alloc _)).mono ?_;rw[h1];rintro e w1 ⟨rfl,q,rfl⟩)
    go_ret
    exact⟨rfl,slc⟩




set_option maxHeartbeats 4000000 in
theorem l03Make_any (w:World) (s:Bool) {A:Option Addr}{n c N:Nat}(h:IsN w A n c N) (h60:n≤60) :
    Calls Tryz.prog 95 #[.bool s,.slice A n c] w fun e w'=> ∃ s' A' n' c',e=.returned (.agg #[.bool s',.slice A' n' c'])∧Hid (s'=(s && decide (0 < N)))∧OwI 3 w.heap.size w' A' n' c' (ints (dig N))∧Bl w w':=by
  have hl:=h.lenN
  have hl1:Hid ((([]:List Int) ++ ints (dig N)).length=n):=by have:=RdI.len h;unfold Hid;simpa using this
  have hp:=dig_len_pos (n:=N)
  rw[hl] at hp
  clear hl
  rcases s with _ | _
  · have hs:=Lib.hid (show false=(false && decide (0 < N)) from rfl)
    clear hp
    go_enter Tryz.func95,Tryz.ntmps95
    go_wp2_with fail
    refine(l02Cap_num _ (RdI.alloc h _) h60).mono ?_
    rintro e w1 ⟨rfl,q,rfl⟩
    have hbW:Bl w ((w.alloc (.cells #[.bool false,.slice none 0 0] 29)).drewN q):=slc
    have hr:Wk 2 29 w.heap.size ((w.alloc (.cells #[.bool false,.slice none 0 0] 29)).drewN q):=bts
    generalize (w.alloc (.cells #[.bool false,.slice none 0 0] 29)).drewN q=W at *
    have hz:=hr.lt
    go_wp2_with (at_builtin;go_must (refine wpList_append_x (w0:=W) info_int Tryz.underlying27 rfl (.tmp 14) (.tmp 15) rfl _ [] rfl (OwL.empty W (Nat.le_refl _) (by simp)) ((Bl.refl W).alloc _) A n c rfl (ints (dig N)) (RdI.alloc (RdI.bl h hbW) _) (by simp) (by omega) ?_);intro v1 w2 hown2 hb2;obtain⟨A1,c1,hv1,ho1⟩:=hown2.own (by rw[hl1.out];omega);rw[hl1.out] at hv1 ho1;subst hv1;obtain⟨⟨x0,x1⟩,hf0,hf1⟩:=(hr.bl hb2).out2)
    have hg:=(hr.bl hb2).lt
    have ho1:OwI 3 (w.heap.size+1) w2 A1 n c1 (ints (dig N)):=ho1.mono hz
    exact bodyPost_ret (v:=.agg #[.bool false,.slice A1 n c1]) (by simp[results,Tryz.results95,go_sem,x0,x1]) rfl ⟨_,_,_,_,rfl,hs,((ho1.far (by simp) _).far (by simp) _).mono (by omega),slc⟩
  · rcases Nat.eq_zero_or_pos n with h0 | h0
    · have hN:N=0:=by omega
      have hs:=Lib.hid (show false=(true && decide (0 < N)) by simp[hN])
      subst h0
      clear hp hN
      go_enter Tryz.func95,Tryz.ntmps95
      go_wp2_with fail
      refine(l02Cap_num _ (RdI.alloc h _) h60).mono ?_
      rintro e w1 ⟨rfl,q,rfl⟩
      have hbW:Bl w ((w.alloc (.cells #[.bool false,.slice none 0 0] 29)).drewN q):=slc
      have hr:Wk 2 29 w.heap.size ((w.alloc (.cells #[.bool false,.slice none 0 0] 29)).drewN q):=bts
      generalize (w.alloc (.cells #[.bool false,.slice none 0 0] 29)).drewN q=W at *
      have hz:=hr.lt
      go_wp2_with (at_builtin;go_must (refine wpList_append_x (w0:=W) info_int Tryz.underlying27 rfl (.tmp 14) (.tmp 15) rfl _ [] rfl (OwL.empty W (Nat.le_refl _) (by simp)) ((Bl.refl W).alloc _) A 0 c rfl (ints (dig N)) (RdI.alloc (RdI.bl h hbW) _) (by simp) (by omega) ?_);intro v1 w2 hown2 hb2;obtain⟨A1,c1,hv1,ho1⟩:=hown2.own (by rw[hl1.out];omega);rw[hl1.out] at hv1 ho1;subst hv1;obtain⟨⟨x0,x1⟩,hf0,hf1⟩:=(hr.bl hb2).out2)
      have hg:=(hr.bl hb2).lt
      have ho1:OwI 3 (w.heap.size+1) w2 A1 0 c1 (ints (dig N)):=ho1.mono hz
      exact bodyPost_ret (v:=.agg #[.bool false,.slice A1 0 c1]) (by simp[results,Tryz.results95,go_sem,x0,x1]) rfl ⟨_,_,_,_,rfl,hs,((ho1.far (by simp) _).far (by simp) _).mono (by omega),slc⟩
    · have hs:=Lib.hid (show true=(true && decide (0 < N)) by simp;omega)
      have h0i:0 < (n:Int):=by omega
      clear hp
      go_enter Tryz.func95,Tryz.ntmps95
      go_wp2_with fail
      refine(l02Cap_num _ (RdI.alloc h _) h60).mono ?_
      rintro e w1 ⟨rfl,q,rfl⟩
      have hbW:Bl w ((w.alloc (.cells #[.bool false,.slice none 0 0] 29)).drewN q):=slc
      have hr:Wk 2 29 w.heap.size ((w.alloc (.cells #[.bool false,.slice none 0 0] 29)).drewN q):=bts
      generalize (w.alloc (.cells #[.bool false,.slice none 0 0] 29)).drewN q=W at *
      have hz:=hr.lt
      go_wp2_with (at_builtin;go_must (refine wpList_append_x (w0:=W) info_int Tryz.underlying27 rfl (.tmp 14) (.tmp 15) rfl _ [] rfl (OwL.empty W (Nat.le_refl _) (by simp)) ((Bl.refl W).alloc _) A n c rfl (ints (dig N)) (RdI.alloc (RdI.bl h hbW) _) (by simp) (by omega) ?_);intro v1 w2 hown2 hb2;obtain⟨A1,c1,hv1,ho1⟩:=hown2.own (by rw[hl1.out];omega);rw[hl1.out] at hv1 ho1;subst hv1;obtain⟨⟨x0,x1⟩,hf0,hf1⟩:=(hr.bl hb2).out2)
      have hg:=(hr.bl hb2).lt
      have ho1:OwI 3 (w.heap.size+1) w2 A1 n c1 (ints (dig N)):=ho1.mono hz
      exact bodyPost_ret (v:=.agg #[.bool true,.slice A1 n c1]) (by simp[results,Tryz.results95,go_sem,x0,x1]) rfl ⟨_,_,_,_,rfl,hs,((ho1.far (by simp) _).far (by simp) _).mono (by omega),slc⟩

theorem sum_len {N M a b:Nat}(h1:(dig N).length≤a) (h2:(dig M).length≤a) (hab:a+1≤b):(dig (N+M)).length≤b:=by
  rw[dig_len_le] at *
  have p1:Bs ^ (a+1)≤Bs ^ b:=Nat.pow_le_pow_right Bs_pos hab
  rw[Nat.pow_succ,Bs_eq] at p1
  rw[Bs_eq] at *
  omega
set_option maxRecDepth 100000 in
set_option maxHeartbeats 4000000 in
theorem l03Add_same_true (w:World) {A:Option Addr}{n c:Nat}{x:Int}{B:Option Addr}{m d:Nat}{y:Int}(h:IsB w true A n c x) (k:IsB w true B m d y) (hn:n≤59) (hm:m≤59) :
    Calls Tryz.prog 156 #[.agg #[.bool true,.slice A n c],.agg #[.bool true,.slice B m d]] w fun e w'=> ∃ s' A' n' c',e=.returned (.agg #[.bool s',.slice A' n' c'])∧OwB 3 w.heap.size w' s' A' n' c' (x+y)∧Bl w w':=by
  have hs:=Lib.hid h.1
  have ht:=Lib.hid k.1
  have hlen:=Lib.hid (sum_len (b:=60) (Nat.le_trans (Nat.le_of_eq h.mg.lenN) hn) (Nat.le_trans (Nat.le_of_eq k.mg.lenN) hm) (by omega))
  go_enter Tryz.func156,Tryz.ntmps156
  go_wp2_with fail
  refine wp_gen (fun W=> Bl w W∧Blk W (w.heap.size) 29 #[.bool true,.slice A n c]∧Blk W (w.heap.size+1) 29 #[.bool true,.slice B m d]∧Wk 2 29 (w.heap.size+1+1) W) ⟨slc,bts,bts,bts⟩ ?_
  rintro W ⟨hbW,hx1,hx2,hr⟩
  obtain⟨j0,j1⟩:=bx2 hx1
  obtain⟨j2,j3⟩:=bx2 hx2
  go_wp2_with fail
  go_region_held3 (fun w' =>(w'.cell? ⟨w.heap.size,0,none⟩=some (.bool true)∧w'.cell? ⟨w.heap.size,1,none⟩=some (.slice A n c))∧(w'.cell? ⟨w.heap.size+1,0,none⟩=some (.bool true)∧w'.cell? ⟨w.heap.size+1,1,none⟩=some (.slice B m d))∧(w'.cell? ⟨w.heap.size+1+1,0,none⟩=some (cellD w' (w.heap.size+1+1) 0)∧w'.cell? ⟨w.heap.size+1+1,1,none⟩=some (cellD w' (w.heap.size+1+1) 1))∧w'.frozen? ⟨w.heap.size+1+1,0,none⟩=false∧w'.frozen? ⟨w.heap.size+1+1,1,none⟩=false) (first | exact⟨bx2 (T:=29) bts,bx2 (T:=29) bts,Wk.out2 (T:=29) bts⟩) (first |(go_at_call 169;refine(l02Add_any _ (h.mg.bl slc) (k.mg.bl slc) (by omega) (by omega)).mono ?_;rintro e w3 ⟨A1,k1,c1,rfl,hO,hb3⟩;(have hz3:Hid (W.heap.size≤w3.heap.size):=(Bl.size hb3:W.drew.heap.size≤_));(have hl3:k1≤60:=by rw[← hO.rd.lenN];exact hlen.out)) |(go_at_call 95;refine(l03Make_any _ _ (RdI.bl hO.rd slc) hl3).mono ?_;rintro e w4 ⟨s',A4,k4,c4,rfl,hs',hO4,hb4⟩))
  have hg:w.heap.size+1+1 < w4.heap.size:=Wk.lt (k:=2) (T:=29) (by exact bts)
  have hrl:Wk 2 29 (w.heap.size+1+1) w4:=bts
  have hz:w.heap.size+1+1 < W.heap.size:=hr.lt
  have hz3:W.heap.size≤w3.heap.size:=hz3.out
  have hbl:Bl w w4:=slc
  obtain⟨v0,x0⟩:=hrl.val_ (i:=0) (by omega)
  obtain⟨v1,x1⟩:=hrl.val_ (i:=1) (by omega)
  have hO4:OwB 3 (w.heap.size+1+1+1) w4 s' A4 k4 c4 (x+y):=⟨(add_same hs.out ht.out hs'.out).1,by rw[(add_same hs.out ht.out hs'.out).2];exact hO4.mono (by omega)⟩
  go_wp2_with fail
  refine bodyPost_ret (v:=.agg #[.bool s',.slice A4 k4 c4]) (by simp[results,Tryz.results156,go_sem,x0,x1]) rfl ⟨_,_,_,_,rfl,((hO4.far (by simp) _).far (by simp) _).mono (by omega),slc⟩
set_option maxRecDepth 100000 in
set_option maxHeartbeats 4000000 in
theorem l03Add_bus_true (w:World) {A:Option Addr}{n c:Nat}{x:Int}{B:Option Addr}{m d:Nat}{y:Int}(h:IsB w true A n c x) (k:IsB w false B m d y) (hn:n≤59) (hm:m≤59) (hle:x.natAbs < y.natAbs) :
    Calls Tryz.prog 156 #[.agg #[.bool true,.slice A n c],.agg #[.bool false,.slice B m d]] w fun e w'=> ∃ s' A' n' c',e=.returned (.agg #[.bool s',.slice A' n' c'])∧OwB 3 w.heap.size w' s' A' n' c' (x+y)∧Bl w w':=by
  have hs:=Lib.hid h.1
  have ht:=Lib.hid k.1
  have hcc:cmpI (x.natAbs:Int) (y.natAbs:Int) < 0:=by unfold cmpI;split <;> (try split) <;> omega
  have hle:=Lib.hid hle;rename_i h_;clear h_
  have hlen:=Lib.hid (show (dig (y.natAbs - x.natAbs)).length≤60 from Nat.le_trans (dig_len_mono (Nat.sub_le _ _)) (Nat.le_trans (Nat.le_of_eq k.mg.lenN) (by omega:m≤60)))
  generalize hcd:cmpI (x.natAbs:Int) (y.natAbs:Int)=cc at hcc
  go_enter Tryz.func156,Tryz.ntmps156
  go_wp2_with fail
  refine calls_gen (fun W=> Bl w W∧Blk W (w.heap.size) 29 #[.bool true,.slice A n c]∧Blk W (w.heap.size+1) 29 #[.bool false,.slice B m d]∧Wk 2 29 (w.heap.size+1+1) W) ⟨slc,bts,bts,bts⟩ ?_
  rintro W ⟨hbW,hx1,hx2,hr⟩
  obtain⟨j0,j1⟩:=bx2 hx1
  obtain⟨j2,j3⟩:=bx2 hx2
  refine(l02Cmp_any _ (h.mg.bl hbW) (k.mg.bl hbW) (by omega) (by omega)).mono ?_
  rw[hcd]
  rintro e w2 ⟨rfl,q,rfl⟩
  clear hcd
  go_wp2_with fail
  go_region_held3 (fun w' =>(w'.cell? ⟨w.heap.size,0,none⟩=some (.bool true)∧w'.cell? ⟨w.heap.size,1,none⟩=some (.slice A n c))∧(w'.cell? ⟨w.heap.size+1,0,none⟩=some (.bool false)∧w'.cell? ⟨w.heap.size+1,1,none⟩=some (.slice B m d))∧(w'.cell? ⟨w.heap.size+1+1,0,none⟩=some (cellD w' (w.heap.size+1+1) 0)∧w'.cell? ⟨w.heap.size+1+1,1,none⟩=some (cellD w' (w.heap.size+1+1) 1))∧w'.frozen? ⟨w.heap.size+1+1,0,none⟩=false∧w'.frozen? ⟨w.heap.size+1+1,1,none⟩=false) (first | exact⟨bx2 (T:=29) bts,bx2 (T:=29) bts,Wk.out2 (T:=29) bts⟩) (first |(go_at_call 160;refine(l02Sub_any _ (k.mg.bl slc) (h.mg.bl slc) (by omega) (Nat.le_of_lt hle.out)).mono ?_;rintro e w3 ⟨A1,k1,c1,rfl,hO,hb3⟩;(have hz3:Hid (W.heap.size≤w3.heap.size):=(Bl.size hb3:(W.drewN q).drew.heap.size≤_));(have hl3:k1≤60:=by rw[← hO.rd.lenN];exact hlen.out)) |(go_at_call 95;refine(l03Make_any _ _ (RdI.bl hO.rd slc) hl3).mono ?_;rintro e w4 ⟨s',A4,k4,c4,rfl,hs',hO4,hb4⟩))
  have hg:w.heap.size+1+1 < w4.heap.size:=Wk.lt (k:=2) (T:=29) (by exact bts)
  have hrl:Wk 2 29 (w.heap.size+1+1) w4:=bts
  have hz:w.heap.size+1+1 < W.heap.size:=hr.lt
  have hz3:W.heap.size≤w3.heap.size:=hz3.out
  have hbl:Bl w w4:=slc
  obtain⟨v0,x0⟩:=hrl.val_ (i:=0) (by omega)
  obtain⟨v1,x1⟩:=hrl.val_ (i:=1) (by omega)
  have hO4:OwB 3 (w.heap.size+1+1+1) w4 s' A4 k4 c4 (x+y):=⟨(add_diff2 hs.out ht.out rfl (Nat.le_of_lt hle.out) hs'.out).1,by rw[(add_diff2 hs.out ht.out rfl (Nat.le_of_lt hle.out) hs'.out).2];exact hO4.mono (by omega)⟩
  go_wp2_with fail
  refine bodyPost_ret (v:=.agg #[.bool s',.slice A4 k4 c4]) (by simp[results,Tryz.results156,go_sem,x0,x1]) rfl ⟨_,_,_,_,rfl,((hO4.far (by simp) _).far (by simp) _).mono (by omega),slc⟩
set_option maxRecDepth 100000 in
set_option maxHeartbeats 4000000 in
theorem l03Add_sub_true (w:World) {A:Option Addr}{n c:Nat}{x:Int}{B:Option Addr}{m d:Nat}{y:Int}(h:IsB w true A n c x) (k:IsB w false B m d y) (hn:n≤59) (hm:m≤59) (hle:y.natAbs≤x.natAbs) :
    Calls Tryz.prog 156 #[.agg #[.bool true,.slice A n c],.agg #[.bool false,.slice B m d]] w fun e w'=> ∃ s' A' n' c',e=.returned (.agg #[.bool s',.slice A' n' c'])∧OwB 3 w.heap.size w' s' A' n' c' (x+y)∧Bl w w':=by
  have hs:=Lib.hid h.1
  have ht:=Lib.hid k.1
  have hcc:0≤cmpI (x.natAbs:Int) (y.natAbs:Int):=by unfold cmpI;split <;> (try split) <;> omega
  have hle:=Lib.hid hle;rename_i h_;clear h_
  have hlen:=Lib.hid (show (dig (x.natAbs - y.natAbs)).length≤60 from Nat.le_trans (dig_len_mono (Nat.sub_le _ _)) (Nat.le_trans (Nat.le_of_eq h.mg.lenN) (by omega:n≤60)))
  generalize hcd:cmpI (x.natAbs:Int) (y.natAbs:Int)=cc at hcc
  go_enter Tryz.func156,Tryz.ntmps156
  go_wp2_with fail
  refine calls_gen (fun W=> Bl w W∧Blk W (w.heap.size) 29 #[.bool true,.slice A n c]∧Blk W (w.heap.size+1) 29 #[.bool false,.slice B m d]∧Wk 2 29 (w.heap.size+1+1) W) ⟨slc,bts,bts,bts⟩ ?_
  rintro W ⟨hbW,hx1,hx2,hr⟩
  obtain⟨j0,j1⟩:=bx2 hx1
  obtain⟨j2,j3⟩:=bx2 hx2
  refine(l02Cmp_any _ (h.mg.bl hbW) (k.mg.bl hbW) (by omega) (by omega)).mono ?_
  rw[hcd]
  rintro e w2 ⟨rfl,q,rfl⟩
  clear hcd
  go_wp2_with fail
  go_region_held3 (fun w' =>(w'.cell? ⟨w.heap.size,0,none⟩=some (.bool true)∧w'.cell? ⟨w.heap.size,1,none⟩=some (.slice A n c))∧(w'.cell? ⟨w.heap.size+1,0,none⟩=some (.bool false)∧w'.cell? ⟨w.heap.size+1,1,none⟩=some (.slice B m d))∧(w'.cell? ⟨w.heap.size+1+1,0,none⟩=some (cellD w' (w.heap.size+1+1) 0)∧w'.cell? ⟨w.heap.size+1+1,1,none⟩=some (cellD w' (w.heap.size+1+1) 1))∧w'.frozen? ⟨w.heap.size+1+1,0,none⟩=false∧w'.frozen? ⟨w.heap.size+1+1,1,none⟩=false) (first | exact⟨bx2 (T:=29) bts,bx2 (T:=29) bts,Wk.out2 (T:=29) bts⟩) (first |(go_at_call 160;refine(l02Sub_any _ (h.mg.bl slc) (k.mg.bl slc) (by omega) hle.out).mono ?_;rintro e w3 ⟨A1,k1,c1,rfl,hO,hb3⟩;(have hz3:Hid (W.heap.size≤w3.heap.size):=(Bl.size hb3:(W.drewN q).drew.heap.size≤_));(have hl3:k1≤60:=by rw[← hO.rd.lenN];exact hlen.out)) |(go_at_call 95;refine(l03Make_any _ _ (RdI.bl hO.rd slc) hl3).mono ?_;rintro e w4 ⟨s',A4,k4,c4,rfl,hs',hO4,hb4⟩))
  have hg:w.heap.size+1+1 < w4.heap.size:=Wk.lt (k:=2) (T:=29) (by exact bts)
  have hrl:Wk 2 29 (w.heap.size+1+1) w4:=bts
  have hz:w.heap.size+1+1 < W.heap.size:=hr.lt
  have hz3:W.heap.size≤w3.heap.size:=hz3.out
  have hbl:Bl w w4:=slc
  obtain⟨v0,x0⟩:=hrl.val_ (i:=0) (by omega)
  obtain⟨v1,x1⟩:=hrl.val_ (i:=1) (by omega)
  have hO4:OwB 3 (w.heap.size+1+1+1) w4 s' A4 k4 c4 (x+y):=⟨(add_diff hs.out ht.out rfl hle.out hs'.out).1,by rw[(add_diff hs.out ht.out rfl hle.out hs'.out).2];exact hO4.mono (by omega)⟩
  go_wp2_with fail
  refine bodyPost_ret (v:=.agg #[.bool s',.slice A4 k4 c4]) (by simp[results,Tryz.results156,go_sem,x0,x1]) rfl ⟨_,_,_,_,rfl,((hO4.far (by simp) _).far (by simp) _).mono (by omega),slc⟩
set_option maxRecDepth 100000 in
set_option maxHeartbeats 4000000 in
theorem l03Add_same_false (w:World) {A:Option Addr}{n c:Nat}{x:Int}{B:Option Addr}{m d:Nat}{y:Int}(h:IsB w false A n c x) (k:IsB w false B m d y) (hn:n≤59) (hm:m≤59) :
    Calls Tryz.prog 156 #[.agg #[.bool false,.slice A n c],.agg #[.bool false,.slice B m d]] w fun e w'=> ∃ s' A' n' c',e=.returned (.agg #[.bool s',.slice A' n' c'])∧OwB 3 w.heap.size w' s' A' n' c' (x+y)∧Bl w w':=by
  have hs:=Lib.hid h.1
  have ht:=Lib.hid k.1
  have hlen:=Lib.hid (sum_len (b:=60) (Nat.le_trans (Nat.le_of_eq h.mg.lenN) hn) (Nat.le_trans (Nat.le_of_eq k.mg.lenN) hm) (by omega))
  go_enter Tryz.func156,Tryz.ntmps156
  go_wp2_with fail
  refine wp_gen (fun W=> Bl w W∧Blk W (w.heap.size) 29 #[.bool false,.slice A n c]∧Blk W (w.heap.size+1) 29 #[.bool false,.slice B m d]∧Wk 2 29 (w.heap.size+1+1) W) ⟨slc,bts,bts,bts⟩ ?_
  rintro W ⟨hbW,hx1,hx2,hr⟩
  obtain⟨j0,j1⟩:=bx2 hx1
  obtain⟨j2,j3⟩:=bx2 hx2
  go_wp2_with fail
  go_region_held3 (fun w' =>(w'.cell? ⟨w.heap.size,0,none⟩=some (.bool false)∧w'.cell? ⟨w.heap.size,1,none⟩=some (.slice A n c))∧(w'.cell? ⟨w.heap.size+1,0,none⟩=some (.bool false)∧w'.cell? ⟨w.heap.size+1,1,none⟩=some (.slice B m d))∧(w'.cell? ⟨w.heap.size+1+1,0,none⟩=some (cellD w' (w.heap.size+1+1) 0)∧w'.cell? ⟨w.heap.size+1+1,1,none⟩=some (cellD w' (w.heap.size+1+1) 1))∧w'.frozen? ⟨w.heap.size+1+1,0,none⟩=false∧w'.frozen? ⟨w.heap.size+1+1,1,none⟩=false) (first | exact⟨bx2 (T:=29) bts,bx2 (T:=29) bts,Wk.out2 (T:=29) bts⟩) (first |(go_at_call 169;refine(l02Add_any _ (h.mg.bl slc) (k.mg.bl slc) (by omega) (by omega)).mono ?_;rintro e w3 ⟨A1,k1,c1,rfl,hO,hb3⟩;(have hz3:Hid (W.heap.size≤w3.heap.size):=(Bl.size hb3:W.drew.heap.size≤_));(have hl3:k1≤60:=by rw[← hO.rd.lenN];exact hlen.out)) |(go_at_call 95;refine(l03Make_any _ _ (RdI.bl hO.rd slc) hl3).mono ?_;rintro e w4 ⟨s',A4,k4,c4,rfl,hs',hO4,hb4⟩))
  have hg:w.heap.size+1+1 < w4.heap.size:=Wk.lt (k:=2) (T:=29) (by exact bts)
  have hrl:Wk 2 29 (w.heap.size+1+1) w4:=bts
  have hz:w.heap.size+1+1 < W.heap.size:=hr.lt
  have hz3:W.heap.size≤w3.heap.size:=hz3.out
  have hbl:Bl w w4:=slc
  obtain⟨v0,x0⟩:=hrl.val_ (i:=0) (by omega)
  obtain⟨v1,x1⟩:=hrl.val_ (i:=1) (by omega)
  have hO4:OwB 3 (w.heap.size+1+1+1) w4 s' A4 k4 c4 (x+y):=⟨(add_same hs.out ht.out hs'.out).1,by rw[(add_same hs.out ht.out hs'.out).2];exact hO4.mono (by omega)⟩
  go_wp2_with fail
  refine bodyPost_ret (v:=.agg #[.bool s',.slice A4 k4 c4]) (by simp[results,Tryz.results156,go_sem,x0,x1]) rfl ⟨_,_,_,_,rfl,((hO4.far (by simp) _).far (by simp) _).mono (by omega),slc⟩
set_option maxRecDepth 100000 in
set_option maxHeartbeats 4000000 in
theorem l03Add_bus_false (w:World) {A:Option Addr}{n c:Nat}{x:Int}{B:Option Addr}{m d:Nat}{y:Int}(h:IsB w false A n c x) (k:IsB w true B m d y) (hn:n≤59) (hm:m≤59) (hle:x.natAbs < y.natAbs) :
    Calls Tryz.prog 156 #[.agg #[.bool false,.slice A n c],.agg #[.bool true,.slice B m d]] w fun e w'=> ∃ s' A' n' c',e=.returned (.agg #[.bool s',.slice A' n' c'])∧OwB 3 w.heap.size w' s' A' n' c' (x+y)∧Bl w w':=by
  have hs:=Lib.hid h.1
  have ht:=Lib.hid k.1
  have hcc:cmpI (x.natAbs:Int) (y.natAbs:Int) < 0:=by unfold cmpI;split <;> (try split) <;> omega
  have hle:=Lib.hid hle;rename_i h_;clear h_
  have hlen:=Lib.hid (show (dig (y.natAbs - x.natAbs)).length≤60 from Nat.le_trans (dig_len_mono (Nat.sub_le _ _)) (Nat.le_trans (Nat.le_of_eq k.mg.lenN) (by omega:m≤60)))
  generalize hcd:cmpI (x.natAbs:Int) (y.natAbs:Int)=cc at hcc
  go_enter Tryz.func156,Tryz.ntmps156
  go_wp2_with fail
  refine calls_gen (fun W=> Bl w W∧Blk W (w.heap.size) 29 #[.bool false,.slice A n c]∧Blk W (w.heap.size+1) 29 #[.bool true,.slice B m d]∧Wk 2 29 (w.heap.size+1+1) W) ⟨slc,bts,bts,bts⟩ ?_
  rintro W ⟨hbW,hx1,hx2,hr⟩
  obtain⟨j0,j1⟩:=bx2 hx1
  obtain⟨j2,j3⟩:=bx2 hx2
  refine(l02Cmp_any _ (h.mg.bl hbW) (k.mg.bl hbW) (by omega) (by omega)).mono ?_
  rw[hcd]
  rintro e w2 ⟨rfl,q,rfl⟩
  clear hcd
  go_wp2_with fail
  go_region_held3 (fun w' =>(w'.cell? ⟨w.heap.size,0,none⟩=some (.bool false)∧w'.cell? ⟨w.heap.size,1,none⟩=some (.slice A n c))∧(w'.cell? ⟨w.heap.size+1,0,none⟩=some (.bool true)∧w'.cell? ⟨w.heap.size+1,1,none⟩=some (.slice B m d))∧(w'.cell? ⟨w.heap.size+1+1,0,none⟩=some (cellD w' (w.heap.size+1+1) 0)∧w'.cell? ⟨w.heap.size+1+1,1,none⟩=some (cellD w' (w.heap.size+1+1) 1))∧w'.frozen? ⟨w.heap.size+1+1,0,none⟩=false∧w'.frozen? ⟨w.heap.size+1+1,1,none⟩=false) (first | exact⟨bx2 (T:=29) bts,bx2 (T:=29) bts,Wk.out2 (T:=29) bts⟩) (first |(go_at_call 160;refine(l02Sub_any _ (k.mg.bl slc) (h.mg.bl slc) (by omega) (Nat.le_of_lt hle.out)).mono ?_;rintro e w3 ⟨A1,k1,c1,rfl,hO,hb3⟩;(have hz3:Hid (W.heap.size≤w3.heap.size):=(Bl.size hb3:(W.drewN q).drew.heap.size≤_));(have hl3:k1≤60:=by rw[← hO.rd.lenN];exact hlen.out)) |(go_at_call 95;refine(l03Make_any _ _ (RdI.bl hO.rd slc) hl3).mono ?_;rintro e w4 ⟨s',A4,k4,c4,rfl,hs',hO4,hb4⟩))
  have hg:w.heap.size+1+1 < w4.heap.size:=Wk.lt (k:=2) (T:=29) (by exact bts)
  have hrl:Wk 2 29 (w.heap.size+1+1) w4:=bts
  have hz:w.heap.size+1+1 < W.heap.size:=hr.lt
  have hz3:W.heap.size≤w3.heap.size:=hz3.out
  have hbl:Bl w w4:=slc
  obtain⟨v0,x0⟩:=hrl.val_ (i:=0) (by omega)
  obtain⟨v1,x1⟩:=hrl.val_ (i:=1) (by omega)
  have hO4:OwB 3 (w.heap.size+1+1+1) w4 s' A4 k4 c4 (x+y):=⟨(add_diff2 hs.out ht.out rfl (Nat.le_of_lt hle.out) hs'.out).1,by rw[(add_diff2 hs.out ht.out rfl (Nat.le_of_lt hle.out) hs'.out).2];exact hO4.mono (by omega)⟩
  go_wp2_with fail
  refine bodyPost_ret (v:=.agg #[.bool s',.slice A4 k4 c4]) (by simp[results,Tryz.results156,go_sem,x0,x1]) rfl ⟨_,_,_,_,rfl,((hO4.far (by simp) _).far (by simp) _).mono (by omega),slc⟩
set_option maxRecDepth 100000 in
set_option maxHeartbeats 4000000 in
theorem l03Add_sub_false (w:World) {A:Option Addr}{n c:Nat}{x:Int}{B:Option Addr}{m d:Nat}{y:Int}(h:IsB w false A n c x) (k:IsB w true B m d y) (hn:n≤59) (hm:m≤59) (hle:y.natAbs≤x.natAbs) :
    Calls Tryz.prog 156 #[.agg #[.bool false,.slice A n c],.agg #[.bool true,.slice B m d]] w fun e w'=> ∃ s' A' n' c',e=.returned (.agg #[.bool s',.slice A' n' c'])∧OwB 3 w.heap.size w' s' A' n' c' (x+y)∧Bl w w':=by
  have hs:=Lib.hid h.1
  have ht:=Lib.hid k.1
  have hcc:0≤cmpI (x.natAbs:Int) (y.natAbs:Int):=by unfold cmpI;split <;> (try split) <;> omega
  have hle:=Lib.hid hle;rename_i h_;clear h_
  have hlen:=Lib.hid (show (dig (x.natAbs - y.natAbs)).length≤60 from Nat.le_trans (dig_len_mono (Nat.sub_le _ _)) (Nat.le_trans (Nat.le_of_eq h.mg.lenN) (by omega:n≤60)))
  generalize hcd:cmpI (x.natAbs:Int) (y.natAbs:Int)=cc at hcc
  go_enter Tryz.func156,Tryz.ntmps156
  go_wp2_with fail
  refine calls_gen (fun W=> Bl w W∧Blk W (w.heap.size) 29 #[.bool false,.slice A n c]∧Blk W (w.heap.size+1) 29 #[.bool true,.slice B m d]∧Wk 2 29 (w.heap.size+1+1) W) ⟨slc,bts,bts,bts⟩ ?_
  rintro W ⟨hbW,hx1,hx2,hr⟩
  obtain⟨j0,j1⟩:=bx2 hx1
  obtain⟨j2,j3⟩:=bx2 hx2
  refine(l02Cmp_any _ (h.mg.bl hbW) (k.mg.bl hbW) (by omega) (by omega)).mono ?_
  rw[hcd]
  rintro e w2 ⟨rfl,q,rfl⟩
  clear hcd
  go_wp2_with fail
  go_region_held3 (fun w' =>(w'.cell? ⟨w.heap.size,0,none⟩=some (.bool false)∧w'.cell? ⟨w.heap.size,1,none⟩=some (.slice A n c))∧(w'.cell? ⟨w.heap.size+1,0,none⟩=some (.bool true)∧w'.cell? ⟨w.heap.size+1,1,none⟩=some (.slice B m d))∧(w'.cell? ⟨w.heap.size+1+1,0,none⟩=some (cellD w' (w.heap.size+1+1) 0)∧w'.cell? ⟨w.heap.size+1+1,1,none⟩=some (cellD w' (w.heap.size+1+1) 1))∧w'.frozen? ⟨w.heap.size+1+1,0,none⟩=false∧w'.frozen? ⟨w.heap.size+1+1,1,none⟩=false) (first | exact⟨bx2 (T:=29) bts,bx2 (T:=29) bts,Wk.out2 (T:=29) bts⟩) (first |(go_at_call 160;refine(l02Sub_any _ (h.mg.bl slc) (k.mg.bl slc) (by omega) hle.out).mono ?_;rintro e w3 ⟨A1,k1,c1,rfl,hO,hb3⟩;(have hz3:Hid (W.heap.size≤w3.heap.size):=(Bl.size hb3:(W.drewN q).drew.heap.size≤_));(have hl3:k1≤60:=by rw[← hO.rd.lenN];exact hlen.out)) |(go_at_call 95;refine(l03Make_any _ _ (RdI.bl hO.rd slc) hl3).mono ?_;rintro e w4 ⟨s',A4,k4,c4,rfl,hs',hO4,hb4⟩))
  have hg:w.heap.size+1+1 < w4.heap.size:=Wk.lt (k:=2) (T:=29) (by exact bts)
  have hrl:Wk 2 29 (w.heap.size+1+1) w4:=bts
  have hz:w.heap.size+1+1 < W.heap.size:=hr.lt
  have hz3:W.heap.size≤w3.heap.size:=hz3.out
  have hbl:Bl w w4:=slc
  obtain⟨v0,x0⟩:=hrl.val_ (i:=0) (by omega)
  obtain⟨v1,x1⟩:=hrl.val_ (i:=1) (by omega)
  have hO4:OwB 3 (w.heap.size+1+1+1) w4 s' A4 k4 c4 (x+y):=⟨(add_diff hs.out ht.out rfl hle.out hs'.out).1,by rw[(add_diff hs.out ht.out rfl hle.out hs'.out).2];exact hO4.mono (by omega)⟩
  go_wp2_with fail
  refine bodyPost_ret (v:=.agg #[.bool s',.slice A4 k4 c4]) (by simp[results,Tryz.results156,go_sem,x0,x1]) rfl ⟨_,_,_,_,rfl,((hO4.far (by simp) _).far (by simp) _).mono (by omega),slc⟩

theorem l03Add_any (w:World) {s:Bool}{A:Option Addr}{n c:Nat}{x:Int}{t:Bool}{B:Option Addr}{m d:Nat}{y:Int}(h:IsB w s A n c x) (k:IsB w t B m d y) (hn:n≤59) (hm:m≤59) :
    Calls Tryz.prog 156 #[.agg #[.bool s,.slice A n c],.agg #[.bool t,.slice B m d]] w fun e w'=> ∃ s' A' n' c',e=.returned (.agg #[.bool s',.slice A' n' c'])∧OwB 3 w.heap.size w' s' A' n' c' (x+y)∧Bl w w':=by
  rcases s with _ | _ <;> rcases t with _ | _
  · exact l03Add_same_false w h k hn hm
  · rcases Nat.lt_or_ge x.natAbs y.natAbs with hle | hle
    · exact l03Add_bus_false w h k hn hm hle
    · exact l03Add_sub_false w h k hn hm hle
  · rcases Nat.lt_or_ge x.natAbs y.natAbs with hle | hle
    · exact l03Add_bus_true w h k hn hm hle
    · exact l03Add_sub_true w h k hn hm hle
  · exact l03Add_same_true w h k hn hm
end

end Go.Proofs.YtjaapemopbbfaaaGreat
