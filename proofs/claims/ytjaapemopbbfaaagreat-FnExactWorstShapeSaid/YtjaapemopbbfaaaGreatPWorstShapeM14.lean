/- Lemmas. -/
import Derived.Test.YtjaapemopbbfaaaGreatRows
import Derived.Test.YtjaapemopbbfaaaGreatPWorstShapeM08
import Derived.Test.YtjaapemopbbfaaaGreatPWorstShapeM07
namespace Go.Proofs.YtjaapemopbbfaaaGreat
section
open Go.RowKit

set_option maxHeartbeats 1600000 in
theorem l02Trim_any (w:World) {A:Option Addr}{n c:Nat}{l:List Nat}(h:RdI w A n c (ints l)) (hd:Digs l) :
    Calls Tryz.prog 128 #[.slice A n c] w fun e w'=> ∃ m,e=.returned (.slice A m c)∧m≤n∧l.take m=dig (val l)∧∃ q,w'=w.drewN q:=by
  have hn:=h.small
  have hcap:=h.cap
  have hl:=Lib.hid h.lenN
  go_enter Tryz.func128,Tryz.ntmps128
  go_wp2_with fail
  go_loopw [3] (fun v wr=> ∃ m:Nat,v=.int .i64 (m:Int)∧m≤n∧Hid (∀ j,m≤j→dx l j=0)∧∃ q,wr=w.drewN q) (fun v _ =>(intOf v).toNat)
  case atStart=> exact⟨n,rfl,Nat.le_refl _,fun j hj=> dx_beyond (by rw[hl.out];exact hj),0,rfl⟩
  case round =>
    obtain⟨m,rfl,hm,hz,q,rfl⟩:=hrel
    have hmc:m≤c:=by omega
    have hmi:(m:Int)≤(c:Int):=by omega
    rcases m with _ | m
    · have hfin:=Lib.hid (trim_dig hd (Nat.zero_le _) hz.out (.inl rfl))
      go_wp2_with fail
      go_ret
      exact⟨0,rfl,Nat.zero_le _,hfin.out,(by first | exact⟨_,rfl⟩ | exact⟨0,rfl⟩ | exact q_drewN ⟨_,rfl⟩ | exact q_drewN (q_drewN ⟨_,rfl⟩))⟩
    · obtain⟨ad,rfl,hlt,hc⟩:=h.atN (k:=m) (by omega)
      have hki:((m+1:Nat):Int) - 1=(m:Int):=by omega
      have hpos:(0:Int) < ((m+1:Nat):Int):=by omega
      have hmn:(m:Int) < (n:Int):=by omega
      by_cases h0:dx l m=0
      · have hz':=Lib.hid (zero_step hz.out h0)
        rw[h0] at hc
        have h0':=Lib.hid h0;clear h0
        go_wp2_with fail
        go_roundw
        case rel=> exact⟨m,rfl,by omega,hz'.out,(by first | exact⟨_,rfl⟩ | exact⟨0,rfl⟩ | exact q_drewN ⟨_,rfl⟩ | exact q_drewN (q_drewN ⟨_,rfl⟩))⟩
        case measure=> simp[intOf]
      · have hfin:=Lib.hid (trim_dig hd (by rw[hl.out];exact hm) hz.out (.inr h0))
        have hbeq:(((dx l m:Nat):Int) == 0)=false:=by simp;omega
        clear h0
        go_wp2_with fail
        go_ret
        exact⟨m+1,rfl,hm,hfin.out,(by first | exact⟨_,rfl⟩ | exact⟨0,rfl⟩ | exact q_drewN ⟨_,rfl⟩ | exact q_drewN (q_drewN ⟨_,rfl⟩))⟩
set_option maxHeartbeats 1600000 in
theorem l02Cap_any (w:World) {A:Option Addr}{n c:Nat}{l:List Nat}(h:RdI w A n c (ints l)) (hd:Digs l) (h60:(dig (val l)).length≤60) :
    Calls Tryz.prog 133 #[.slice A n c] w fun e w'=> ∃ m,e=.returned (.slice A m c)∧m≤n∧l.take m=dig (val l)∧∃ q,w'=w.drewN q:=by
  have hl:=Lib.hid h.lenN
  go_enter Tryz.func133,Tryz.ntmps133
  go_wp2_with fail
  refine(l02Trim_any _ h hd).mono ?_
  rintro e w1 ⟨m,rfl,hm,ht,q,rfl⟩
  have hm60:m≤60:=by
    have:=congrArg List.length ht
    rw[List.length_take,hl.out] at this
    omega
  have hi:¬ (60:Int) < (m:Int):=by omega
  have ht:=Lib.hid ht;rename_i h_;clear h_
  go_wp2_with fail
  go_ret
  exact⟨m,rfl,hm,ht.out,q,rfl⟩
/-- Trim and cap of a number's own limbs change nothing. -/
theorem l02Trim_num (w:World) {A:Option Addr}{n c N:Nat}(h:IsN w A n c N) :
    Calls Tryz.prog 128 #[.slice A n c] w fun e w'=> e=.returned (.slice A n c)∧∃ q,w'=w.drewN q:=by
  refine(l02Trim_any w h (digs_dig N)).mono ?_
  rintro e w1 ⟨m,rfl,hm,ht,hq⟩
  have:=congrArg List.length ht
  rw[List.length_take,val_dig,h.lenN] at this
  obtain rfl:m=n:=by omega
  exact⟨rfl,hq⟩
theorem l02Cap_num (w:World) {A:Option Addr}{n c N:Nat}(h:IsN w A n c N) (h60:n≤60) :
    Calls Tryz.prog 133 #[.slice A n c] w fun e w'=> e=.returned (.slice A n c)∧∃ q,w'=w.drewN q:=by
  refine(l02Cap_any w h (digs_dig N) (by rw[val_dig,h.lenN];exact h60)).mono ?_
  rintro e w1 ⟨m,rfl,hm,ht,hq⟩
  have:=congrArg List.length ht
  rw[List.length_take,val_dig,h.lenN] at this
  obtain rfl:m=n:=by omega
  exact⟨rfl,hq⟩

set_option maxHeartbeats 1600000 in
theorem sNatOf_any (w:World) (N:Nat) (hN:N < 9223372036854775808) :
    Calls Tryz.prog 158 #[.int .i64 (N:Int)] w fun e w'=> ∃ A n c,e=.returned (.slice A n c)∧OwI 3 w.heap.size w' A n c (ints (dig N))∧Bl w w':=by
  go_enter Tryz.func158,Tryz.ntmps158
  go_wp2_with fail
  go_loopw [0,3] (fun r v wr=> ∃ (R:Nat) (d:List Nat),r=.int .i64 (R:Int)∧R≤N∧Hid (d ++ dig R=dig N)∧OwL 3 w.heap.size wr v (ints d)∧Bl w wr) (fun r _ _ =>(intOf r).toNat)
  case atStart=> exact⟨N,[],rfl,Nat.le_refl _,rfl,OwL.empty w (Nat.le_refl _) (by simp),(Bl.refl w).alloc _⟩
  case round =>
    obtain⟨R,d,rfl,hR,hd,hown,hbw⟩:=hrel
    by_cases h0:0 < R
    · have hnext:=Lib.hid (natOf_step hd.out h0)
      have hlen:(ints d).length≤1099511627776:=by
        have:=congrArg List.length hd.out
        have h3:(dig N).length≤3:=dig_len_le.2 (by rw[Bs_eq];omega)
        rw[List.length_append] at this
        rw[ints_len];omega
      have hpos:(0:Int) < (R:Int):=by omega
      have hdiv:=Nat.div_lt_self h0 (show 1 < 1000000000 by omega)
      have hRi:(R:Int)≤9223372036854775807:=by omega
      go_wp2_with (at_builtin;go_must (refine wpList_append_int (w0:=w) info_int Tryz.underlying27 rfl (.tmp 7) (.tmp 10) rfl _ (ints d) rfl hown hbw 1 rfl hlen ?_);intro v' w1 hown1 hbw1)
      go_roundw
      case rel=> exact⟨R / Bs,d ++ [R % Bs],by rw[Bs_eq];go_num,Nat.le_trans (Nat.div_le_self _ _) hR,hnext.out,by rw[ints_append,Bs_eq];exact hown1,hbw1⟩
      case measure=> simp[intOf];omega
    · obtain rfl:R=0:=by omega
      have hfin:=Lib.hid (show d=dig N by have:=hd.out;rwa [dig_zero,List.append_nil] at this)
      have hlen:(ints d).length≤9223372036854775807:=by
        have h3:(dig N).length≤3:=dig_len_le.2 (by rw[Bs_eq];omega)
        rw[ints_len,hfin.out];omega
      obtain⟨A,c,hv,ho⟩:=hown.own hlen
      have hv:=Lib.hid hv;rename_i hvo;clear hvo
      go_wp2_with fail
      go_ret
      exact⟨A,_,c,congrArg Ending.returned hv.out,by rw[← hfin.out];exact ho,hbw⟩

set_option maxHeartbeats 4000000 in
theorem l02Cmp_any (w:World) {A B:Option Addr}{n m c d N M:Nat}(ha:IsN w A n c N) (hb:IsN w B m d M) (hn:n≤2097152) (hm:m≤2097152) :
    Calls Tryz.prog 132 #[.slice A n c,.slice B m d] w fun e w'=> e=.returned (.int .i64 (cmpI N M))∧∃ q,w'=w.drewN q:=by
  have hnl:=Lib.hid ha.lenN
  have hml:=Lib.hid hb.lenN
  by_cases hnm:n=m
  · subst hnm
    go_enter Tryz.func132,Tryz.ntmps132
    go_wp2_with fail
    go_loopw [5] (fun i wr=> ∃ k:Nat,k≤n∧i=.int .i64 ((k:Int) - 1)∧Hid (∀ j,k≤j→dx (dig N) j=dx (dig M) j)∧∃ q,wr=w.drewN q) (fun i _ =>(intOf i+1).toNat)
    case atStart=> exact⟨n,Nat.le_refl _,rfl,fun j hj=> by rw[dx_beyond (by rw[hnl.out];exact hj),dx_beyond (by rw[hml.out];exact hj)],0,rfl⟩
    case round =>
      obtain⟨k,hk,rfl,heq,q,rfl⟩:=hrel
      rcases k with _ | k
      · go_wp2_with fail
        go_ret
        exact⟨ret_int (cmp_same hnl.out hml.out heq.out),q,rfl⟩
      · have hkn:k < n:=hk
        obtain⟨ad,rfl,hlta,hca⟩:=ha.atN (k:=k) (by omega)
        obtain⟨bd,rfl,hltb,hcb⟩:=hb.atN (k:=k) (by omega)
        rw[show (((k+1:Nat):Int) - 1)=(k:Int) from by omega]
        rcases Nat.lt_trichotomy (dx (dig N) k) (dx (dig M) k) with he | he | he
        · have hs:=Lib.hid (cmp_digit hnl.out hml.out hkn heq.out (by omega));clear heq
          rw[cmpI_lt (by omega)] at hs
          go_wp2_with fail
          go_quiet (fail)
          go_wp2_with fail
          go_ret
          exact⟨ret_int hs.out,(by first | exact⟨_,rfl⟩ | exact⟨0,rfl⟩ | exact q_drewN ⟨_,rfl⟩ | exact q_drewN (q_drewN ⟨_,rfl⟩))⟩
        · have hs:Hid (∀ j,k≤j→dx (dig N) j=dx (dig M) j):=fun j hj=> by
            rcases Nat.eq_or_lt_of_le hj with rfl | hlt
            · exact he
            · exact heq.out j hlt
          clear heq
          rw[he] at hca
          clear he
          go_wp2_with fail
          go_quiet (fail)
          go_wp2_with fail
          go_quiet (fail)
          go_wp2_with fail
          go_roundw
          case rel=> exact⟨k,by omega,rfl,hs,(by first | exact⟨_,rfl⟩ | exact⟨0,rfl⟩ | exact q_drewN ⟨_,rfl⟩ | exact q_drewN (q_drewN ⟨_,rfl⟩))⟩
          case measure=> simp[intOf]
        · have hs:=Lib.hid (cmp_digit hnl.out hml.out hkn heq.out (by omega));clear heq
          rw[cmpI_gt (by omega)] at hs
          have hno:¬ dx (dig N) k < dx (dig M) k:=by omega
          go_wp2_with fail
          go_quiet (fail)
          go_wp2_with fail
          go_quiet (fail)
          go_wp2_with fail
          go_ret
          exact⟨ret_int hs.out,(by first | exact⟨_,rfl⟩ | exact⟨0,rfl⟩ | exact q_drewN ⟨_,rfl⟩ | exact q_drewN (q_drewN ⟨_,rfl⟩))⟩
  · have heq:=cmp_len hnl.out hml.out hnm
    have hne:((n:Int) != (m:Int))=true:=by simp;omega
    rcases Nat.lt_or_ge n m with hlt | hge
    · rw[cmpI_lt (by omega)] at heq
      have heq:=Lib.hid heq;rename_i h_;clear h_
      clear hnm
      go_enter Tryz.func132,Tryz.ntmps132
      go_wp2_with fail
      go_ret
      exact⟨ret_int heq.out,0,rfl⟩
    · rw[cmpI_gt (by omega)] at heq
      have heq:=Lib.hid heq;rename_i h_;clear h_
      have hno:¬ n < m:=by omega
      clear hnm
      go_enter Tryz.func132,Tryz.ntmps132
      go_wp2_with fail
      go_ret
      exact⟨ret_int heq.out,0,rfl⟩



theorem AddRel.sstep {N M k c:Nat}{o:List Nat}(h:AddRel N M k c o):AddRel N M (k+1) ((c+dx (dig N) k+dx (dig M) k) / Bs) (o ++ [(c+dx (dig N) k+dx (dig M) k) % Bs]):=by
  have:=h.step
  rwa [show dx (dig N) k+c+dx (dig M) k=c+dx (dig N) k+dx (dig M) k by omega] at this
theorem dig_lower {N:Nat}(h:0 < N):Bs ^ ((dig N).length - 1)≤N:=by
  have:=canon_lower (canon_dig N) (List.length_pos_iff.1 (dig_len_pos.2 h))
  rwa [val_dig] at this
/-- The limbs collected behind all rounds are the sum's own. -/
theorem AddRel.fin {N M k:Nat}{o:List Nat}(h:AddRel N M k 0 o) (hn:(dig N).length≤k) (hm:(dig M).length≤k) (hlow:0 < k→Bs ^ (k - 1)≤N+M):o=dig (N+M):=by
  have hs:=h.sum
  rw[val_vf hn,val_vf hm,val_dig,val_dig,Nat.zero_mul,Nat.add_zero] at hs
  rw[← hs]
  refine(dig_val (canon_of_lower h.digs fun e=> ?_)).symm
  rw[hs,h.len]
  exact hlow (by rw[← h.len];exact List.length_pos_iff.2 e)
set_option maxHeartbeats 8000000 in
theorem l02Add_any (w:World) {A B:Option Addr}{n m c d N M:Nat}(ha:IsN w A n c N) (hb:IsN w B m d M) (hn:n≤1048576) (hm:m≤1048576) :
    Calls Tryz.prog 169 #[.slice A n c,.slice B m d] w fun e w'=> ∃ A' n' c',e=.returned (.slice A' n' c')∧OwI 3 w.heap.size w' A' n' c' (ints (dig (N+M)))∧Bl w w':=by
  go_enter Tryz.func169,Tryz.ntmps169
  go_wp2_with fail
  go_loopw [5,6,7] (fun v cr i wr=> ∃ (k c:Nat) (o:List Nat),i=.int .i64 (k:Int)∧cr=.int .i64 (c:Int)∧AddRel N M k c o∧c≤1∧(k≤n∨k≤m∨(c=0∧k=max n m+1∧Bs ^ (k - 1)≤N+M))∧OwL 3 w.heap.size wr v (ints o)∧Bl w wr) (fun _ cr i _=> 2 * (max n m - (intOf i).toNat)+(intOf cr).toNat)
  case atStart=> exact⟨0,0,[],rfl,rfl,AddRel.zero _ _,by omega,.inl (Nat.zero_le _),OwL.empty w (Nat.le_refl _) (by simp),(Bl.refl w).alloc _⟩
  case round =>
    obtain⟨k,c1,o,rfl,rfl,hrel,hc1,hk,hown,hbw⟩:=hrel
    have hlen:(ints o).length≤1099511627776:=by rw[ints_len,hrel.len];omega
    have bx:=dx_lt (digs_dig N) k
    have by':=dx_lt (digs_dig M) k
    rw[Bs_eq] at bx by'
    by_cases hkn:k < n
    · by_cases hkm:k < m
      · have hlim:k+1≤n∨k+1≤m∨((c1+dx (dig N) k+dx (dig M) k) / Bs=0∧k+1=max n m+1∧Bs ^ (k+1 - 1)≤N+M):=.inl hkn
        obtain⟨ad,rfl,hlta,hca⟩:=(ha.bl hbw).atN hkn
        have hki:(k:Int) < (n:Int):=by omega
        obtain⟨bd,rfl,hltb,hcb⟩:=(hb.bl hbw).atN hkm
        have hkj:(k:Int) < (m:Int):=by omega
        have hs:=hrel.sstep
        go_wp2_with (at_builtin;go_must (refine wpList_append_int (w0:=w) info_int Tryz.underlying27 rfl (.tmp 47) (.tmp 50) rfl _ (ints o) rfl hown hbw 1 rfl hlen ?_);intro v' w1 hown1 hbw1)
        go_roundw
        case rel=> exact⟨k+1,(c1+dx (dig N) k+dx (dig M) k) / Bs,o ++ [(c1+dx (dig N) k+dx (dig M) k) % Bs],rfl,by rw[Bs_eq];go_num,hs,by rw[Bs_eq];omega,hlim,by rw[ints_append,Bs_eq];exact hown1,hbw1⟩
        case measure=> rw[Bs_eq] at *;simp[intOf];omega

      · have hlim:k+1≤n∨k+1≤m∨((c1+dx (dig N) k) / Bs=0∧k+1=max n m+1∧Bs ^ (k+1 - 1)≤N+M):=.inl hkn
        obtain⟨ad,rfl,hlta,hca⟩:=(ha.bl hbw).atN hkn
        have hki:(k:Int) < (n:Int):=by omega
        have hkj:¬ (k:Int) < (m:Int):=by omega
        have hkw:dx (dig M) k=0:=dx_beyond (by rw[hb.lenN];omega)
        have hs:=hrel.sstep
        rw[hkw,Nat.add_zero] at hs
        clear hkw
        go_wp2_with (at_builtin;go_must (refine wpList_append_int (w0:=w) info_int Tryz.underlying27 rfl (.tmp 47) (.tmp 50) rfl _ (ints o) rfl hown hbw 1 rfl hlen ?_);intro v' w1 hown1 hbw1)
        go_roundw
        case rel=> exact⟨k+1,(c1+dx (dig N) k) / Bs,o ++ [(c1+dx (dig N) k) % Bs],rfl,by rw[Bs_eq];go_num,hs,by rw[Bs_eq];omega,hlim,by rw[ints_append,Bs_eq];exact hown1,hbw1⟩
        case measure=> rw[Bs_eq] at *;simp[intOf];omega

    · by_cases hkm:k < m
      · have hlim:k+1≤n∨k+1≤m∨((c1+dx (dig M) k) / Bs=0∧k+1=max n m+1∧Bs ^ (k+1 - 1)≤N+M):=.inr (.inl hkm)
        have hki:¬ (k:Int) < (n:Int):=by omega
        have hkz:dx (dig N) k=0:=dx_beyond (by rw[ha.lenN];omega)
        obtain⟨bd,rfl,hltb,hcb⟩:=(hb.bl hbw).atN hkm
        have hkj:(k:Int) < (m:Int):=by omega
        have hs:=hrel.sstep
        rw[hkz,Nat.add_zero] at hs
        clear hkz
        go_wp2_with (at_builtin;go_must (refine wpList_append_int (w0:=w) info_int Tryz.underlying27 rfl (.tmp 47) (.tmp 50) rfl _ (ints o) rfl hown hbw 1 rfl hlen ?_);intro v' w1 hown1 hbw1)
        go_roundw
        case rel=> exact⟨k+1,(c1+dx (dig M) k) / Bs,o ++ [(c1+dx (dig M) k) % Bs],rfl,by rw[Bs_eq];go_num,hs,by rw[Bs_eq];omega,hlim,by rw[ints_append,Bs_eq];exact hown1,hbw1⟩
        case measure=> rw[Bs_eq] at *;simp[intOf];omega

      · by_cases hc0:0 < c1
        · obtain rfl:c1=1:=by omega
          have hsum:Bs ^ k≤N+M:=by
            have:=hrel.sum
            rw[val_vf (by rw[ha.lenN];omega),val_vf (by rw[hb.lenN];omega),val_dig,val_dig] at this
            omega
          have hlim:k+1≤n∨k+1≤m∨(1 / Bs=0∧k+1=max n m+1∧Bs ^ (k+1 - 1)≤N+M):=.inr (.inr ⟨by rw[Bs_eq],by omega,by rw[Nat.add_sub_cancel];exact hsum⟩)
          clear hsum
          have hki:¬ (k:Int) < (n:Int):=by omega
          have hkz:dx (dig N) k=0:=dx_beyond (by rw[ha.lenN];omega)
          have hkj:¬ (k:Int) < (m:Int):=by omega
          have hkw:dx (dig M) k=0:=dx_beyond (by rw[hb.lenN];omega)
          have hs:=hrel.sstep
          rw[hkz,Nat.add_zero] at hs
          clear hkz
          rw[hkw,Nat.add_zero] at hs
          clear hkw
          go_wp2_with (at_builtin;go_must (refine wpList_append_int (w0:=w) info_int Tryz.underlying27 rfl (.tmp 47) (.tmp 50) rfl _ (ints o) rfl hown hbw 1 rfl hlen ?_);intro v' w1 hown1 hbw1)
          go_roundw
          case rel=> exact⟨k+1,1 / Bs,o ++ [1 % Bs],rfl,rfl,hs,by decide,hlim,by rw[ints_append,Bs_eq];exact hown1,hbw1⟩
          case measure=> rw[Bs_eq] at *;simp[intOf];omega

        · obtain rfl:c1=0:=by omega
          have hlow:0 < k→Bs ^ (k - 1)≤N+M:=by
            intro h0
            rcases hk with hk | hk | hk
            · obtain rfl:k=n:=by omega
              have:=dig_lower (N:=N) (dig_len_pos.1 (by rw[ha.lenN];exact h0))
              rw[ha.lenN] at this
              omega
            · obtain rfl:k=m:=by omega
              have:=dig_lower (N:=M) (dig_len_pos.1 (by rw[hb.lenN];exact h0))
              rw[hb.lenN] at this
              omega
            · exact hk.2.2
          have hfin:=Lib.hid (hrel.fin (by rw[ha.lenN];omega) (by rw[hb.lenN];omega) hlow)
          have hki:¬ (k:Int) < (n:Int):=by omega
          have hkj:¬ (k:Int) < (m:Int):=by omega
          obtain⟨A',c',hv,ho⟩:=hown.own (by omega)
          have hv:=Lib.hid hv;rename_i hvo;clear hvo
          clear hk hlow hrel
          go_wp2_with fail
          go_ret
          exact⟨A',_,c',congrArg Ending.returned hv.out,by rw[← hfin.out];exact ho,hbw⟩

theorem OwI.cutN {T:TypeId}{b0:Nat}{w:World}{A:Option Addr}{n c m N:Nat}{l:List Nat}(h:OwI T b0 w A n c (ints l)) (hm:m≤n) (ht:l.take m=dig N):OwI T b0 w A m c (ints (dig N)):=by
  refine⟨by rw[← ht];exact h.1.cut hm,?_⟩
  rcases h.2 with h0 |⟨g,cs,e,hg,hh,hsz⟩
  · exact .inl (by omega)
  · exact .inr ⟨g,cs,e,hg,hh,by omega⟩
/-- What holds behind k rounds of a subtraction that collects. -/
structure SubA (N M k br:Nat) (o:List Nat):Prop where
  len:o.length=k
  digs:Digs o
  small:br≤1
  diff:val o+vf (dx (dig M)) k=vf (dx (dig N)) k+br * Bs ^ k
theorem SubA.step {N M k br d br':Nat}{o:List Nat}(h:SubA N M k br o) (hd:d < Bs) (hb:br'≤1) (he:d+br+dx (dig M) k=dx (dig N) k+br' * Bs):SubA N M (k+1) br' (o ++ [d]):=by
  refine⟨by simp[h.len],digs_snoc h.digs hd,hb,?_⟩
  have h2:=h.diff
  simp only[vf]
  rw[val_snoc,h.len,Nat.pow_succ]
  have h3:(d+br+dx (dig M) k) * Bs ^ k=(dx (dig N) k+br' * Bs) * Bs ^ k:=by rw[he]
  grind
theorem SubA.stop {N M n br:Nat}{o:List Nat}(h:SubA N M n br o) (hn:(dig N).length=n) (hm:(dig M).length≤n) (hle:M≤N):val o=N - M:=by
  have h1:=h.diff
  rw[val_vf hm,val_vf (by omega),val_dig,val_dig] at h1
  have h2:=val_lt h.digs
  rw[h.len] at h2
  have h3:=h.small
  rcases Nat.eq_zero_or_pos br with h0 | h0
  · subst h0;omega
  · obtain rfl:br=1:=by omega
    omega

set_option maxHeartbeats 8000000 in
theorem l02Sub_any (w:World) {A B:Option Addr}{n m c d N M:Nat}(ha:IsN w A n c N) (hb:IsN w B m d M) (hn:n≤1048576) (hle:M≤N) :
    Calls Tryz.prog 160 #[.slice A n c,.slice B m d] w fun e w'=> ∃ A' n' c',e=.returned (.slice A' n' c')∧OwI 3 w.heap.size w' A' n' c' (ints (dig (N - M)))∧Bl w w':=by
  have hm1:=dig_len_mono hle
  rw[ha.lenN,hb.lenN] at hm1
  go_enter Tryz.func160,Tryz.ntmps160
  go_wp2_with fail
  go_loopw [5,6,12] (fun v b i wr=> ∃ (k br:Nat) (o:List Nat),k≤n∧i=.int .i64 (k:Int)∧b=.int .i64 (br:Int)∧SubA N M k br o∧OwL 3 w.heap.size wr v (ints o)∧Bl w wr) (fun _ _ i _=> n - (intOf i).toNat)
  case atStart=> exact⟨0,0,[],Nat.zero_le _,rfl,rfl,⟨rfl,(fun d hd=> by cases hd),by omega,by simp[vf,val]⟩,OwL.empty w (Nat.le_refl _) (by simp),(Bl.refl w).alloc _⟩
  case round =>
    obtain⟨k,br,o,hk,rfl,rfl,hrel,hown,hbw⟩:=hrel
    have hlen:(ints o).length≤1099511627776:=by rw[ints_len,hrel.len];omega
    by_cases hkn:k < n
    · have hki:(k:Int) < (n:Int):=by omega
      have hbr:=hrel.small
      obtain⟨ad,rfl,hlta,hca⟩:=(ha.bl hbw).atN hkn
      have bz:=dx_lt (digs_dig N) k
      have bym:=dx_lt (digs_dig M) k
      rw[Bs_eq] at bz bym
      have hst:=fun d br' h1 h2 h3=> hrel.step (d:=d) (br':=br') h1 h2 h3
      generalize dx (dig N) k=z at *
      by_cases hkm:k < m
      · have hkj:(k:Int) < (m:Int):=by omega
        obtain⟨bd,rfl,hltb,hcb⟩:=(hb.bl hbw).atN hkm
        generalize dx (dig M) k=y at *
        clear hrel
        by_cases hneg:z < br+y
        · skip
          have ht:(z:Int) - (br:Int) - (y:Int) < 0:=by omega
          have hd:((z+Bs - br - y:Nat):Int)=(z:Int) - (br:Int) - (y:Int)+1000000000:=by rw[Bs_eq] at *;omega
          have hs:=hst (z+Bs - br - y) 1 (by rw[Bs_eq];omega) (by omega) (by rw[Bs_eq];omega)
          have hs:=Lib.hid hs;rename_i h_;clear h_
          have hd:=Lib.hid hd;rename_i h_;clear h_
          clear hst
          go_wp2_with (at_builtin;go_must (refine wpList_append_int (w0:=w) info_int Tryz.underlying27 rfl (.tmp 35) (.tmp 37) rfl _ (ints o) rfl hown hbw 1 rfl hlen ?_);intro v' w1 hown1 hbw1)
          go_roundw
          case rel=> exact⟨k+1,1,o ++ [z+Bs - br - y],by omega,by go_num,rfl,hs.out,by rw[ints_append];show OwL _ _ _ _ (ints o ++ [((z+Bs - br - y:Nat):Int)]);rw[hd.out];exact hown1,hbw1⟩
          case measure=> simp[intOf];omega
        · skip
          have ht:¬ (z:Int) - (br:Int) - (y:Int) < 0:=by omega
          have hd:((z - br - y:Nat):Int)=(z:Int) - (br:Int) - (y:Int):=by omega
          have hs:=hst (z - br - y) 0 (by rw[Bs_eq];omega) (by omega) (by rw[Bs_eq];omega)
          have hs:=Lib.hid hs;rename_i h_;clear h_
          have hd:=Lib.hid hd;rename_i h_;clear h_
          clear hst
          go_wp2_with (at_builtin;go_must (refine wpList_append_int (w0:=w) info_int Tryz.underlying27 rfl (.tmp 35) (.tmp 37) rfl _ (ints o) rfl hown hbw 1 rfl hlen ?_);intro v' w1 hown1 hbw1)
          go_roundw
          case rel=> exact⟨k+1,0,o ++ [z - br - y],by omega,by go_num,rfl,hs.out,by rw[ints_append];show OwL _ _ _ _ (ints o ++ [((z - br - y:Nat):Int)]);rw[hd.out];exact hown1,hbw1⟩
          case measure=> simp[intOf];omega
      · have hkj:¬ (k:Int) < (m:Int):=by omega
        have hy0:dx (dig M) k=0:=dx_beyond (by rw[hb.lenN];omega)
        rw[hy0] at hst
        clear hy0 bym hrel
        by_cases hneg:z < br
        · skip
          have ht:(z:Int) - (br:Int) < 0:=by omega
          have hd:((z+Bs - br:Nat):Int)=(z:Int) - (br:Int)+1000000000:=by rw[Bs_eq] at *;omega
          have hs:=hst (z+Bs - br) 1 (by rw[Bs_eq];omega) (by omega) (by rw[Bs_eq];omega)
          have hs:=Lib.hid hs;rename_i h_;clear h_
          have hd:=Lib.hid hd;rename_i h_;clear h_
          clear hst
          go_wp2_with (at_builtin;go_must (refine wpList_append_int (w0:=w) info_int Tryz.underlying27 rfl (.tmp 35) (.tmp 37) rfl _ (ints o) rfl hown hbw 1 rfl hlen ?_);intro v' w1 hown1 hbw1)
          go_roundw
          case rel=> exact⟨k+1,1,o ++ [z+Bs - br],by omega,by go_num,rfl,hs.out,by rw[ints_append];show OwL _ _ _ _ (ints o ++ [((z+Bs - br:Nat):Int)]);rw[hd.out];exact hown1,hbw1⟩
          case measure=> simp[intOf];omega
        · skip
          have ht:¬ (z:Int) - (br:Int) < 0:=by omega
          have hd:((z - br:Nat):Int)=(z:Int) - (br:Int):=by omega
          have hs:=hst (z - br) 0 (by rw[Bs_eq];omega) (by omega) (by rw[Bs_eq];omega)
          have hs:=Lib.hid hs;rename_i h_;clear h_
          have hd:=Lib.hid hd;rename_i h_;clear h_
          clear hst
          go_wp2_with (at_builtin;go_must (refine wpList_append_int (w0:=w) info_int Tryz.underlying27 rfl (.tmp 35) (.tmp 37) rfl _ (ints o) rfl hown hbw 1 rfl hlen ?_);intro v' w1 hown1 hbw1)
          go_roundw
          case rel=> exact⟨k+1,0,o ++ [z - br],by omega,by go_num,rfl,hs.out,by rw[ints_append];show OwL _ _ _ _ (ints o ++ [((z - br:Nat):Int)]);rw[hd.out];exact hown1,hbw1⟩
          case measure=> simp[intOf];omega
    · obtain rfl:k=n:=by omega
      have hv:=Lib.hid (hrel.stop ha.lenN (by rw[hb.lenN];omega) hle)
      have hlen2:=hrel.len
      have hdg:=hrel.digs
      clear hrel
      obtain⟨A',c',hvv,ho⟩:=hown.own (by omega)
      subst hvv
      rw[ints_len,hlen2] at ho
      have hlen2:=Lib.hid hlen2;rename_i h_;clear h_
      go_wp2_with fail
      rw[ints_len,hlen2.out]
      refine(l02Trim_any _ (l:=o) ho.rd hdg).mono ?_
      rintro e w2 ⟨m',rfl,hm',ht,hq⟩
      rw[hv.out] at ht
      have hO1:=(ho.cutN hm' ht).q hq
      have hbw1:=hbw.next (q_bl hq)
      go_wp2_with fail
      go_ret
      exact⟨_,_,_,rfl,hO1,hbw1⟩

set_option maxRecDepth 100000 in
set_option maxHeartbeats 8000000 in
theorem l02Mul_pos (w:World) {A B:Option Addr}{n m c d N M:Nat}(ha:IsN w A n c N) (hb:IsN w B m d M) (hn:n≤1048576) (hm:m≤1048576) (hn0:0 < n) (hm0:0 < m) :
    Calls Tryz.prog 88 #[.slice A n c,.slice B m d] w fun e w'=> ∃ A' n' c',e=.returned (.slice A' n' c')∧OwI 3 w.heap.size w' A' n' c' (ints (dig (N * M)))∧Bl w w':=by
  have hmk:=make_ints (P:=Tryz.prog) Tryz.underlying27 info_int (n+m) (n+m) (Nat.le_refl _) (by omega)
  rw[show ((n+m:Nat):Int)=(n:Int)+(m:Int) from by omega] at hmk
  have hn0i:((n:Int) == 0)=false:=by simp;omega
  have hm0i:((m:Int) == 0)=false:=by simp;omega
  go_enter Tryz.func88,Tryz.ntmps88
  go_wp2_with fail
  clear hmk
  go_loopw [28] (fun i wr=> ∃ (k:Nat) (o:List Nat),k≤n∧i=.int .i64 (k:Int)∧MulRel N M n m k o∧Ow 3 wr w.heap.size (ints o)∧Bl w wr) (fun i _=> n - (intOf i).toNat)
  case atStart=> exact⟨0,List.replicate (n+m) 0,Nat.zero_le _,rfl,MulRel.zero _ _ _ _,by rw[ints_replicate];exact Ow.mk w (n+m),(Bl.refl w).alloc _⟩
  case round =>
    obtain⟨k,o,hk,rfl,hmul,hO,hbw⟩:=hrel
    obtain⟨wo,hwo⟩:∃ wo:World,wo=wr:=⟨_,rfl⟩
    subst hwo
    by_cases hkn:k < n
    · obtain⟨ad,rfl,hlta,hca⟩:=(ha.bl hbw).atN hkn
      have hki:(k:Int) < (n:Int):=by omega
      have bx:=dx_lt (digs_dig N) k
      rw[Bs_eq] at bx
      have hin:=MulIn.zero hmul
      have hmul0:=Lib.hid hmul
      have hNk:=Lib.hid (show vf (dx (dig N)) (k+1)=vf (dx (dig N)) k+dx (dig N) k * Bs ^ k from rfl)
      generalize dx (dig N) k=x at *
      go_wp2_with fail
      go_loopw [8,35] (fun cr i wr=> ∃ (q c1:Nat) (o':List Nat),q≤m∧i=.int .i64 (q:Int)∧cr=.int .i64 (c1:Int)∧MulIn (val o) x M n m k q c1 o'∧Ow 3 wr w.heap.size (ints o')∧Bl w wr) (fun _ i _=> m - (intOf i).toNat)
      case atStart=> exact⟨0,0,o,Nat.zero_le _,rfl,rfl,hin,hO,hbw⟩
      case round =>
        clear hin hO hbw hca hmul
        obtain⟨q,c1,o',hq,rfl,rfl,hin,hO,hbw⟩:=hrel
        have hc1:=hin.carry
        rw[Bs_eq] at hc1
        by_cases hqm:q < m
        · obtain⟨bd,rfl,hltb,hcb⟩:=(hb.bl hbw).atN hqm
          have hqi:(q:Int) < (m:Int):=by omega
          have hkq:((k:Int)+(q:Int)) < ((n:Int)+(m:Int)):=by omega
          have hkq':k+q < n+m:=by omega
          have by':=dx_lt (digs_dig M) q
          rw[Bs_eq] at by'
          have hcell:=hO.cell (k:=k+q) (by rw[ints_len,hin.len];omega)
          rw[ix_ints] at hcell
          have hfr:=hO.frozen (k+q)
          have bo:=dx_lt hin.digs (k+q)
          rw[Bs_eq] at bo
          have hstep:=hin.step hqm hkn
          have hO1:=hO.set (k+q) (((dx o' (k+q)+x * dx (dig M) q+c1) % Bs:Nat):Int)
          rw[← ints_set] at hO1
          generalize dx (dig M) q=y at *
          generalize dx o' (k+q)=z at *
          have hxy0:(0:Int)≤(x:Int) * (y:Int):=by exact_mod_cast Nat.zero_le (x * y)
          have hxy:(x:Int) * (y:Int)≤999999998000000001:=by
            have:x * y≤999999999 * 999999999:=Nat.mul_le_mul (by omega) (by omega)
            have h2:((x * y:Nat):Int)≤999999998000000001:=by omega
            rwa [Int.natCast_mul] at h2
          have e1:((((z+x * y+c1) % Bs:Nat):Int))=((z:Int)+(x:Int) * (y:Int)+(c1:Int)) % 1000000000:=mul_cast_mod z x y c1
          have e2:((((z+x * y+c1) / Bs:Nat):Int))=((z:Int)+(x:Int) * (y:Int)+(c1:Int)) / 1000000000:=mul_cast_div z x y c1
          rw[e1] at hO1
          have e2:=Lib.hid e2;rename_i e2o;clear e2o e1
          go_wp2_with fail
          go_roundw
          case rel=> exact⟨q+1,_,_,by omega,by go_num,by rw[e2.out],hstep,hO1,hbw.set (Nat.le_refl _) _⟩
          case measure=> simp[intOf];omega
        · obtain rfl:q=m:=by omega
          have hkm:((k:Int)+(q:Int)) < ((n:Int)+(q:Int)):=by omega
          have hkm':k+q < n+q:=by omega
          have hcell:=hO.cell (k:=k+q) (by rw[ints_len,hin.len];omega)
          rw[ix_ints,hin.rest _ (Nat.le_refl _)] at hcell
          have hfr:=hO.frozen (k+q)
          have hstop:=hin.stop hNk.out hb.lenN hkn hmul0.out
          have hO1:=hO.set (k+q) (c1:Int)
          rw[← ints_set] at hO1
          go_wp2_with fail
          go_roundw
          case rel=> exact⟨k+1,_,by omega,by go_num,hstop,hO1,hbw.set (Nat.le_refl _) _⟩
          case measure=> simp[intOf];omega
    · obtain rfl:k=n:=by omega
      have hv:=Lib.hid (show val o=N * M by rw[hmul.prod,val_vf (by rw[ha.lenN];omega),val_dig])
      have hlen:=hmul.len
      go_wp2_with fail
      refine(l02Trim_any _ (l:=o) (RdI.of_ow hO (by rw[ints_len];exact hlen) (by omega)) hmul.digs).mono ?_
      rintro e w1 ⟨m',rfl,hm',ht,hq⟩
      rw[hv.out] at ht
      have hO1:=(OwI.of_ow (c:=k+m) hO (Nat.le_refl _) (by rw[ints_len];exact hlen) (by omega) hm' ht).q hq
      have hbw1:=hbw.next (q_bl hq)
      go_wp2_with fail
      go_ret
      exact⟨_,_,_,rfl,hO1,hbw1⟩

theorem l02Mul_n0 (w:World) {A B:Option Addr}{n m c d N M:Nat}(ha:IsN w A n c N) (_hb:IsN w B m d M) (h0:n=0) :
    Calls Tryz.prog 88 #[.slice A n c,.slice B m d] w fun e w'=> ∃ A' n' c',e=.returned (.slice A' n' c')∧OwI 3 w.heap.size w' A' n' c' (ints (dig (N * M)))∧Bl w w':=by
  subst h0
  have hz:Hid (dig (N * M)=[]):=by unfold Hid;rw[dig_nil.1 (List.length_eq_zero_iff.1 ha.lenN),Nat.zero_mul,dig_zero]
  go_enter Tryz.func88,Tryz.ntmps88
  go_wp2_with fail
  go_ret
  exact⟨_,_,_,rfl,by rw[hz.out];exact OwI.nil _ _ _ _,Bl.refl w⟩

theorem l02Mul_m0 (w:World) {A B:Option Addr}{n m c d N M:Nat}(_ha:IsN w A n c N) (hb:IsN w B m d M) (h1:0 < n) (h0:m=0) :
    Calls Tryz.prog 88 #[.slice A n c,.slice B m d] w fun e w'=> ∃ A' n' c',e=.returned (.slice A' n' c')∧OwI 3 w.heap.size w' A' n' c' (ints (dig (N * M)))∧Bl w w':=by
  subst h0
  have hn0i:((n:Int) == 0)=false:=by simp;omega
  have hz:Hid (dig (N * M)=[]):=by unfold Hid;rw[dig_nil.1 (List.length_eq_zero_iff.1 hb.lenN),Nat.mul_zero,dig_zero]
  go_enter Tryz.func88,Tryz.ntmps88
  go_wp2_with fail
  go_ret
  exact⟨_,_,_,rfl,by rw[hz.out];exact OwI.nil _ _ _ _,Bl.refl w⟩

theorem l02Mul_any (w:World) {A B:Option Addr}{n m c d N M:Nat}(ha:IsN w A n c N) (hb:IsN w B m d M) (hn:n≤1048576) (hm:m≤1048576) :
    Calls Tryz.prog 88 #[.slice A n c,.slice B m d] w fun e w'=> ∃ A' n' c',e=.returned (.slice A' n' c')∧OwI 3 w.heap.size w' A' n' c' (ints (dig (N * M)))∧Bl w w':=by
  rcases Nat.eq_zero_or_pos n with h0 | h0
  · exact l02Mul_n0 w ha hb h0
  · rcases Nat.eq_zero_or_pos m with h1 | h1
    · exact l02Mul_m0 w ha hb h0 h1
    · exact l02Mul_pos w ha hb hn hm h0 h1
set_option maxHeartbeats 4000000 in
theorem l02Small_any (w:World) {A:Option Addr}{n c N d:Nat}(ha:IsN w A n c N) (hn:n≤1048576) (hd0:0 < d) (hdB:d < 1000000000) :
    Calls Tryz.prog 157 #[.slice A n c,.int .i64 (d:Int)] w fun e w'=> ∃ A' n' c',e=.returned (.tuple #[.slice A' n' c',.int .i64 ((N % d:Nat):Int)])∧OwI 3 w.heap.size w' A' n' c' (ints (dig (N / d)))∧Bl w w':=by
  have hmk:=make_ints (P:=Tryz.prog) Tryz.underlying27 info_int n n (Nat.le_refl _) (by omega)
  go_enter Tryz.func157,Tryz.ntmps157
  go_wp2_with fail
  clear hmk
  go_loopw [7,8] (fun rv i wr=> ∃ (k r:Nat) (o:List Nat),k≤n∧i=.int .i64 ((k:Int) - 1)∧rv=.int .i64 (r:Int)∧DivRel N d n k r o∧Ow 3 wr w.heap.size (ints o)∧Bl w wr) (fun _ i _ =>(intOf i+1).toNat)
  case atStart=> exact⟨n,0,List.replicate n 0,Nat.le_refl _,rfl,rfl,DivRel.start ha.lenN hd0,by rw[ints_replicate];exact Ow.mk w n,(Bl.refl w).alloc _⟩
  case round =>
    obtain⟨k,r,o,hk,rfl,rfl,hrel,hO,hbw⟩:=hrel
    rcases k with _ | k
    · have hv:=Lib.hid hrel.stop
      have hlen:=hrel.len
      have hdg:=hrel.digs
      clear hrel
      go_wp2_with fail
      refine(l02Trim_any _ (l:=o) (RdI.of_ow hO (by rw[ints_len];exact hlen) (by omega)) hdg).mono ?_
      rintro e w1 ⟨m',rfl,hm',ht,hq⟩
      rw[hv.out.1] at ht
      have hO1:=(OwI.of_ow (c:=n) hO (Nat.le_refl _) (by rw[ints_len];exact hlen) (by omega) hm' ht).q hq
      have hbw1:=hbw.next (q_bl hq)
      go_wp2_with fail
      go_ret2
      exact⟨_,_,_,by rw[← hv.out.2];rfl,hO1,hbw1⟩
    · obtain⟨ad,rfl,hlta,hca⟩:=(ha.bl hbw).atN (k:=k) (by omega)
      have hki:(k:Int) < (n:Int):=by omega
      have hkn:k < n:=by omega
      rw[show (((k+1:Nat):Int) - 1)=(k:Int) from by omega]
      have hcell:=hO.cell (k:=k) (by rw[ints_len,hrel.len];omega)
      rw[ix_ints] at hcell
      have hfr:=hO.frozen k
      have bx:=dx_lt (digs_dig N) k
      have hq:=div_limb hrel.small bx
      rw[Bs_eq] at bx
      have hr:=hrel.small
      have hst:=hrel.step hkn
      have hO1:=hO.set k (((r * Bs+dx (dig N) k) / d:Nat):Int)
      rw[← ints_set] at hO1
      generalize dx (dig N) k=x at *
      have e1:((((r * Bs+x) / d:Nat):Int))=((r:Int) * 1000000000+(x:Int)) / (d:Int):=by rw[Bs_eq];simp
      have e2:((((r * Bs+x) % d:Nat):Int))=((r:Int) * 1000000000+(x:Int)) % (d:Int):=by rw[Bs_eq];simp
      rw[e1] at hO1
      have e2:=Lib.hid e2;rename_i e2o;clear e2o e1 hq
      go_wp2_with fail
      go_roundw
      case rel=> exact⟨k,_,_,by omega,rfl,by rw[e2.out],hst,hO1,hbw.set (Nat.le_refl _) _⟩
      case measure=> simp[intOf]



theorem run_append_nil' {P:Program}(w:World) (base:Nat) {t ty e:TypeId}{i:TypeInfo}{size:Nat}(ht:P.underlying t=some (.slice e)) (hi:P.info? e=some i)
    {v:Value}{n:Nat}{xs:List Value}(hown:w.ownsRow base e size v n xs) (c:Nat):(Builtin.append_ #[t,t] ty #[v,.slice none 0 c]).run P w=.ok v w:=by
  rcases hown.2 with ⟨rfl,rfl⟩ |⟨g,cap,cur,rfl,_,_,hnc,_⟩
  · simp[Builtin.append_,run_underlying ht,sizeOf,typeInfo,hi,Builtin.lenOf,Builtin.firstCells]
  · simp[Builtin.append_,run_underlying ht,sizeOf,typeInfo,hi,Builtin.lenOf,Builtin.firstCells,hnc,storeCells]
/-- append of a whole slice that reads as ys, nil or not. -/
theorem wpList_append_x {P:Program}{E t:TypeId}(hinfo:(P.info? E).map (fun i =>(i.zero,i.size,i.bytes))=some (some (.int .i64 0),1,8)) (ht:P.underlying t=some (.slice E))
    {w0 W:World}{ops:Array Oper}{rest:List Oper}{o:Oper}{a:Act}{Q:Exit→Act→World→Prop}(hgd:o.guard=none) (s x:Operand)
    (ho:o.op=.call { callee:=.builtin .append,args:=#[s,x],argTypes:=#[t,t] }) (v:Value) (l:List Int) (hs:a.eval s=v) (hown:OwL E w0.heap.size W v l) (hb:Bl w0 W)
    (A:Option Addr) (m c:Nat) (hx:a.eval x=.slice A m c) (ys:List Int) (hr:RdI W A m c ys) (hlen:l.length≤1099511627776) (hm:m≤1099511627776)
    (h:∀ v' w',OwL E w0.heap.size w' v' (l ++ ys)→Bl w0 w'→wpList P ops Q rest (a.put o.dst v') w'):wpList P ops Q (o :: rest) a W:=by
  rcases A with _ | ad
  · have hm0:m=0:=by
      rcases Nat.eq_zero_or_pos m with h0 | h0
      · exact h0
      · obtain⟨_,e,_⟩:=hr.at_ h0
        cases e
    subst hm0
    have hy:ys=[]:=List.length_eq_zero_iff.1 hr.len
    subst hy
    obtain⟨i0,hi,hz0,hz1,hz2⟩:=info_parts hinfo
    refine wpList_plain hgd fun K hK=> ?_
    have hrun:=run_append_nil' (P:=P) W w0.heap.size (ty:=o.type) ht hi hown c
    unfold Oper.wp
    simp[execOp,ho,resolve,invoke,builtin,hs,hx,hrun,Result.andThen]
    exact hK _ _ (h v W (by rw[List.append_nil];exact hown) hb)
  · exact wpList_append_all hinfo ht hgd s x ho v l hs hown hb ad m c hx ys hr hlen hm h
theorem OwL.one {E:TypeId}{base:Nat}(w:World) (x:Int) (hb:base≤w.heap.size):OwL E base (w.alloc (.cells #[.int .i64 x] E)) (.slice (some ⟨w.heap.size,0,none⟩) 1 1) [x] :=
  World.ownsRow_lit w #[.int .i64 x] 1 hb (by decide) rfl

set_option maxHeartbeats 1600000 in
theorem sNatOk_any (w:World) {A:Option Addr}{n c:Nat}{l:List Int}(h:RdI w A n c l) :
    Calls Tryz.prog 91 #[.slice A n c] w fun e w'=> e=.returned (.bool (okN l))∧∃ q,w'=w.drewN q:=by
  have hn:=h.small
  have hl:=Lib.hid h.len
  have hiff:=Lib.hid (okN_iff l)
  go_enter Tryz.func91,Tryz.ntmps91
  go_wp2_with fail
  go_loopw [7] (fun i wr=> ∃ k:Nat,k≤n∧i=.int .i64 (k:Int)∧InTo l k∧∃ q,wr=w.drewN q) (fun i _=> n - (intOf i).toNat)
  case atStart=> exact⟨0,Nat.zero_le _,rfl,InTo.zero _,0,rfl⟩
  case round =>
    obtain⟨k,hk,rfl,hin,q,rfl⟩:=hrel
    by_cases hkn:k < n
    · have hki:(k:Int) < (n:Int):=by omega
      obtain⟨ad,rfl,hlt,hc⟩:=h.at_ hkn
      by_cases hx:0≤ix l k∧ix l k≤999999999
      · have hin':=hin.step hx.1 hx.2
        have hb:(decide (0≤ix l k) && decide (ix l k≤999999999))=true:=by simp[hx.1,hx.2]
        clear hin hx
        go_wp2_with fail
        refine(l01In_any _ _ _ _).mono ?_
        rw[hb]
        clear hb
        rintro e w1 ⟨rfl,q1,rfl⟩
        go_wp2_with fail
        go_roundw
        case rel=> exact⟨k+1,by omega,by go_num,hin',(by first | exact⟨_,rfl⟩ | exact⟨0,rfl⟩ | exact q_drewN ⟨_,rfl⟩ | exact q_drewN (q_drewN ⟨_,rfl⟩))⟩
        case measure=> simp[intOf];omega
      · have hno:¬ OkN l:=fun ho=> hx ((hiff.out.1 ho).2.2 k (by rw[hl.out];exact hkn))
        have hv:=Lib.hid (okN_no hno)
        have hb:(decide (0≤ix l k) && decide (ix l k≤999999999))=false:=by
          rw[← Bool.decide_and,decide_eq_false hx]
        clear hin hx hno
        go_wp2_with fail
        refine(l01In_any _ _ _ _).mono ?_
        rw[hb]
        clear hb
        rintro e w1 ⟨rfl,q1,rfl⟩
        go_wp2_with fail
        go_ret
        exact⟨ret_bool hv.out.symm,(by first | exact⟨_,rfl⟩ | exact⟨0,rfl⟩ | exact q_drewN ⟨_,rfl⟩ | exact q_drewN (q_drewN ⟨_,rfl⟩))⟩
    · obtain rfl:k=n:=by omega
      by_cases h60:k≤60
      · have d60:decide ((k:Int)≤60)=true:=by simp;omega
        rcases Nat.eq_zero_or_pos k with h0 | h0
        · subst h0
          have hv:=Lib.hid (okN_of (hiff.out.2 ⟨by rw[hl.out];exact h60,.inl hl.out,fun j hj=> by rw[hl.out] at hj;omega⟩))
          clear hin
          go_wp2_with fail
          go_ret
          exact⟨ret_bool hv.out.symm,(by first | exact⟨_,rfl⟩ | exact⟨0,rfl⟩ | exact q_drewN ⟨_,rfl⟩ | exact q_drewN (q_drewN ⟨_,rfl⟩))⟩
        · have hne:((k:Int) == 0)=false:=by simp;omega
          have hki:(k:Int) - 1=((k - 1:Nat):Int):=by omega
          obtain⟨ad,rfl,hlt,hc⟩:=h.at_ (k:=k - 1) (by omega)
          by_cases hz:ix l (k - 1)=0
          · have hv:=Lib.hid (okN_no (fun ho=> by
              have:=(hiff.out.1 ho).2.1
              rw[hl.out] at this
              rcases this with this | this
              · omega
              · exact this hz))
            rw[hz] at hc
            clear hin hz
            go_wp2_with fail
            go_ret
            exact⟨ret_bool hv.out.symm,(by first | exact⟨_,rfl⟩ | exact⟨0,rfl⟩ | exact q_drewN ⟨_,rfl⟩ | exact q_drewN (q_drewN ⟨_,rfl⟩))⟩
          · have hv:=Lib.hid (okN_of (hiff.out.2 ⟨by rw[hl.out];exact h60,.inr (by rw[hl.out];exact hz),fun j hj=> hin j (by rw[hl.out] at hj;exact hj)⟩))
            have hnz:((ix l (k - 1)) != 0)=true:=by simpa using hz
            clear hin hz
            go_wp2_with fail
            go_ret
            exact⟨ret_bool hv.out.symm,(by first | exact⟨_,rfl⟩ | exact⟨0,rfl⟩ | exact q_drewN ⟨_,rfl⟩ | exact q_drewN (q_drewN ⟨_,rfl⟩))⟩
      · have d60:decide ((k:Int)≤60)=false:=by simp;omega
        have hv:=Lib.hid (okN_no (fun ho=> h60 (by have:=(hiff.out.1 ho).1;rw[hl.out] at this;exact this)))
        clear hin
        go_wp2_with fail
        go_ret
        exact⟨ret_bool hv.out.symm,(by first | exact⟨_,rfl⟩ | exact⟨0,rfl⟩ | exact q_drewN ⟨_,rfl⟩ | exact q_drewN (q_drewN ⟨_,rfl⟩))⟩

set_option maxHeartbeats 1600000 in
theorem l02Plain_any (w:World) (a b:Nat) (ha:a≤9223372036854775807) (hb:b≤9223372036854775807) :
    Calls Tryz.prog 131 #[.int .i64 (a:Int),.int .i64 (b:Int)] w fun e w'=> ∃ A n c,e=.returned (.slice A n c)∧OwI 3 w.heap.size w' A n c (ints (dig (Nat.gcd a b)))∧Bl w w':=by
  go_enter Tryz.func131,Tryz.ntmps131
  go_wp2_with fail
  go_loopw [0,1] (fun u v wr=> ∃ x y:Nat,u=.int .i64 (x:Int)∧v=.int .i64 (y:Int)∧x≤9223372036854775807∧y≤9223372036854775807∧Hid (Nat.gcd x y=Nat.gcd a b)∧wr=w) (fun _ v _ =>(intOf v).toNat)
  case atStart=> exact⟨a,b,rfl,rfl,ha,hb,rfl,rfl⟩
  case round =>
    obtain⟨x,y,rfl,rfl,hx,hy,hg,rfl⟩:=hrel
    rcases Nat.eq_zero_or_pos y with h0 | h0
    · subst h0
      have hfin:Hid (x=Nat.gcd a b):=by unfold Hid;rw[← hg.out,Nat.gcd_zero_right]
      go_wp2_with fail
      refine(sNatOf_any _ x (by omega)).mono ?_
      rintro e w1 ⟨A,n,c,rfl,hO,hb1⟩
      go_wp2_with fail
      go_ret
      exact⟨_,_,_,rfl,by rw[← hfin.out];exact hO,hb1⟩
    · have hyi:0 < (y:Int):=by omega
      have hne:((y:Int) == 0)=false:=by simp;omega
      have hne2:(y:Int)≠0:=by omega
      have hml:=Nat.mod_lt x h0
      have hmi:=Int.emod_nonneg (x:Int) hne2
      have hg':Hid (Nat.gcd y (x % y)=Nat.gcd a b):=by unfold Hid;rw[← hg.out,Nat.gcd_comm x y,Nat.gcd_rec y x,Nat.gcd_comm]
      clear hg
      go_wp2_with fail
      go_roundw
      case rel=> exact⟨y,x % y,rfl,by rw[Int.natCast_emod],hy,by omega,hg',trivial⟩
      case measure=> simp[intOf];omega
theorem dig_max:dig 9223372036854775807=[854775807,223372036,9]:=by
  have h:Canon [854775807,223372036,9]:=by
    refine⟨by decide,⟨by decide,⟨by decide,trivial,fun _=> by decide⟩,fun e=> by cases e⟩,fun e=> by cases e⟩
  have:=dig_val h
  rwa [show val [854775807,223372036,9]=9223372036854775807 from by decide] at this
theorem dx_dig (N k:Nat):dx (dig N) k=N / Bs ^ k % Bs:=by
  induction k generalizing N with
  | zero =>
    rw[Nat.pow_zero,Nat.div_one]
    by_cases h:N=0
    · subst h;rw[dig_zero];rfl
    · rw[dig_pos h,dx_cons_zero]
  | succ k ih =>
    by_cases h:N=0
    · subst h;rw[dig_zero,Nat.zero_div];rfl
    · rw[dig_pos h,dx_cons_succ,ih,Nat.div_div_eq_div_mul,Nat.pow_succ,Nat.mul_comm]
set_option maxHeartbeats 4000000 in
theorem NatToInt_any (w:World) {A:Option Addr}{n c N:Nat}(h:IsN w A n c N) (hn:n≤2) :
    Calls Tryz.prog 130 #[.slice A n c] w fun e w'=> e=.returned (.tuple #[.int .i64 (N:Int),.bool true])∧Bl w w':=by
  have hok:=okN_of (l:=ints (dig N)) ⟨N,rfl,by rw[h.lenN];omega⟩
  have hNlt:N < Bs ^ 2:=dig_len_le.1 (by rw[h.lenN];exact hn)
  rw[Bs_eq] at hNlt
  have hcv:cmpI (N:Int) ((9223372036854775807:Nat):Int)=-1:=cmpI_lt (by omega)
  have hlN:=h.lenN
  go_enter Tryz.func130,Tryz.ntmps130
  go_wp2_with fail
  refine(sNatOk_any _ h).mono ?_
  rw[hok]
  rintro e w1 ⟨rfl,q,rfl⟩
  go_wp2_with fail
  have hM:IsN ((w.drewN q).alloc (.cells #[.int .i64 854775807,.int .i64 223372036,.int .i64 9] 3)) (some ⟨w.heap.size,0,none⟩) 3 3 9223372036854775807:=by
    have hB:Ow 3 ((w.drewN q).alloc (.cells #[.int .i64 854775807,.int .i64 223372036,.int .i64 9] 3)) (w.drewN q).heap.size [854775807,223372036,9]:=heap_alloc_new _ _
    have:=hB.rd (c:=3) (by decide) (by decide)
    show RdI _ _ _ _ (ints (dig 9223372036854775807))
    rw[dig_max]
    exact this
  refine(l02Cmp_any _ (RdI.bl h slc) (RdI.bl hM slc) (by omega) (by omega)).mono ?_
  rw[hcv]
  rintro e w2 ⟨rfl,q2,rfl⟩
  clear hM
  have hb2:Bl w (((w.drewN q).alloc (.cells #[.int .i64 854775807,.int .i64 223372036,.int .i64 9] 3)).drewN q2):=slc
  go_wp2_with fail
  refine wp_gen (fun W=> Bl w W) hb2 ?_
  intro W hbW
  go_loopw [4,5] (fun v i wr=> ∃ k:Nat,k≤n∧i=.int .i64 ((k:Int) - 1)∧v=.int .i64 ((N / Bs ^ k:Nat):Int)∧wr=W) (fun _ i _ =>(intOf i+1).toNat)
  case atStart=> exact⟨n,Nat.le_refl _,rfl,by rw[Nat.div_eq_of_lt (dig_len_le.1 (Nat.le_of_eq hlN))];rfl,rfl⟩
  case round =>
    obtain⟨k,hk,rfl,rfl,rfl⟩:=hrel
    rcases k with _ | k
    · have hv:=Lib.hid (show ((N / Bs ^ 0:Nat):Int)=(N:Int) by rw[Nat.pow_zero,Nat.div_one])
      go_wp2_with fail
      go_ret2
      exact⟨by rw[← hv.out];rfl,hbW⟩
    · obtain⟨ad,rfl,hlt,hc⟩:=(RdI.bl h hbW).atN (k:=k) (by omega)
      rw[show (((k+1:Nat):Int) - 1)=(k:Int) from by omega]
      have hkn:(k:Int) < (n:Int):=by omega
      have hstep:Hid (N / Bs ^ (k+1) * 1000000000+dx (dig N) k=N / Bs ^ k):=by
        unfold Hid
        rw[dx_dig,Nat.pow_succ,← Nat.div_div_eq_div_mul,Bs_eq]
        have:=Nat.div_add_mod (N / 1000000000 ^ k) 1000000000
        omega
      have hb1:N / Bs ^ (k+1)≤1000000000:=by
        have:N / Bs ^ (k+1)≤N / Bs:=Nat.div_le_div_left (by rw[Nat.pow_succ];exact Nat.le_mul_of_pos_left _ (Nat.pow_pos Bs_pos)) Bs_pos
        have h2:N / Bs < 1000000000:=by rw[Bs_eq];omega
        omega
      have hb2':=dx_lt (digs_dig N) k
      rw[Bs_eq] at hb2'
      have hlN':=Lib.hid hlN
      clear hlN hcv hok hNlt
      generalize hX:N / Bs ^ (k+1)=X at *
      have hX:=Lib.hid hX;rename_i h_;clear h_
      go_wp2_with fail
      go_roundw
      case rel=> exact⟨k,by omega,rfl,by rw[← hstep.out];go_num,trivial⟩
      case measure=> simp[intOf]
end

end Go.Proofs.YtjaapemopbbfaaaGreat
