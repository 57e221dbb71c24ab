/- Lemmas. -/
import Derived.Test.YtjaapemopbbfaaaGreatRows
import Derived.Test.YtjaapemopbbfaaaGreatPWorstShapeM14
import Derived.Test.YtjaapemopbbfaaaGreatPWorstShapeM10
namespace Go.Proofs.YtjaapemopbbfaaaGreat
section
open Go.RowKit

theorem mul_le_iff_div {V R q:Nat}(hV:0 < V):V * q≤R↔q≤R / V:=by rw[Nat.le_div_iff_mul_le hV,Nat.mul_comm]
theorem l_cmp {a b:Nat}(h:a≤b):cmpI (a:Int) (b:Int)≤0:=by unfold cmpI;split <;> (try split) <;> omega
theorem l_cmp' {a b:Nat}(h:b < a):0 < cmpI (a:Int) (b:Int):=by rw[cmpI_gt (by omega)];omega
set_option maxHeartbeats 4000000 in
theorem l02Digit_any (w:World) {A B:Option Addr}{n m c d R V:Nat}(ha:IsN w A n c R) (hb:IsN w B m d V) (hn:n≤1048576) (hm:m≤1048570) (hV:0 < V) (hRV:R / V < 1000000000) :
    Calls Tryz.prog 159 #[.slice A n c,.slice B m d] w fun e w'=> e=.returned (.int .i64 ((R / V:Nat):Int))∧Bl w w':=by
  have hRV:=Lib.hid hRV;rename_i h_;clear h_
  go_enter Tryz.func159,Tryz.ntmps159
  go_wp2_with fail
  go_loopw [5,6] (fun u v wr=> ∃ lo hi:Nat,u=.int .i64 (lo:Int)∧v=.int .i64 (hi:Int)∧lo≤hi∧hi≤999999999∧Hid (lo≤R / V)∧Hid (R / V≤hi)∧Bl w wr) (fun u v _ =>(intOf v - intOf u).toNat)
  case atStart=> exact⟨0,999999999,rfl,rfl,by omega,by omega,Nat.zero_le _,Nat.le_of_lt_succ hRV.out,Bl.refl w⟩
  case round =>
    obtain⟨lo,hi,rfl,rfl,hlh,hh,h1,h2,hbw⟩:=hrel
    by_cases hlt:lo < hi
    · have hli:(lo:Int) < (hi:Int):=by omega
      obtain⟨q,hq⟩:∃ q:Nat,q=(lo+hi+1) / 2:=⟨_,rfl⟩
      have hqi:((lo:Int)+(hi:Int)+1) / 2=(q:Int):=by omega
      have hq1:lo < q:=by omega
      have hq2:q≤hi:=by omega
      clear hq
      have hlq:(dig q).length≤1:=dig_len_le.2 (by rw[Bs_eq];omega)
      have hlm:=dig_mul_len (Nat.le_of_eq hb.lenN) hlq
      go_wp2_with fail
      refine(sNatOf_any _ q (by omega)).mono ?_
      rintro e w1 ⟨A1,n1,c1,rfl,hO1,hb1⟩
      have hb1:=hbw.next hb1
      have hl1:n1≤1:=by rw[← hO1.rd.lenN];exact hlq
      go_wp2_with fail
      refine(l02Mul_any _ (RdI.bl hb hb1) hO1.rd (by omega) (by omega)).mono ?_
      rintro e w2 ⟨A2,n2,c2,rfl,hO2,hb2⟩
      have hb2:=hb1.next hb2
      have hl2:n2≤1048576:=by rw[← hO2.rd.lenN];omega
      by_cases hle:V * q≤R
      · have hc:=l_cmp hle
        have h3:Hid (q≤R / V):=(mul_le_iff_div hV).1 hle
        generalize hcc:cmpI ((V * q:Nat):Int) (R:Int)=cc at hc
        go_wp2_with fail
        refine(l02Cmp_any _ hO2.rd (RdI.bl ha hb2) (by omega) (by omega)).mono ?_
        rw[hcc]
        rintro e w3 ⟨rfl,q3,rfl⟩
        clear hcc
        have hb3:Bl w (w2.drewN q3):=hb2.drewN q3
        go_wp2_with fail
        go_roundw
        case rel=> exact⟨q,hi,rfl,rfl,hq2,hh,h3,h2,hb3⟩
        case measure=> simp[intOf];omega
      · have hc:=l_cmp' (Nat.lt_of_not_le hle)
        have h3:Hid (R / V≤q - 1):=by
          unfold Hid
          have:=mt (mul_le_iff_div hV).2 hle
          omega
        generalize hcc:cmpI ((V * q:Nat):Int) (R:Int)=cc at hc
        have hq3:(q:Int) - 1=((q - 1:Nat):Int):=by omega
        clear hle
        go_wp2_with fail
        refine(l02Cmp_any _ hO2.rd (RdI.bl ha hb2) (by omega) (by omega)).mono ?_
        rw[hcc]
        rintro e w3 ⟨rfl,q3,rfl⟩
        clear hcc
        have hb3:Bl w (w2.drewN q3):=hb2.drewN q3
        go_wp2_with fail
        go_roundw
        case rel=> exact⟨lo,q - 1,rfl,rfl,by omega,by omega,h1,h3,hb3⟩
        case measure=> simp[intOf];omega
    · have hfin:Hid (lo=R / V):=by
        have a:=h1.out
        have b:=h2.out
        unfold Hid
        omega
      have hli:¬ (lo:Int) < (hi:Int):=by omega
      go_wp2_with fail
      go_ret
      exact⟨ret_int (by rw[hfin.out];rfl),hbw⟩

/-- What holds when the limbs from place k on have been divided. -/
structure DvRel (N V n k R:Nat) (o:List Nat):Prop where
  len:o.length=n
  digs:Digs o
  zero:∀ j,j < k→dx o j=0
  quo:val o=N / Bs ^ k / V * Bs ^ k
  rest:R=N / Bs ^ k % V
theorem DvRel.start {N V n:Nat}(h:(dig N).length=n):DvRel N V n n 0 (List.replicate n 0):=by
  have h1:N / Bs ^ n=0:=Nat.div_eq_of_lt (dig_len_le.1 (Nat.le_of_eq h))
  exact⟨by simp,digs_replicate _,fun j _=> dx_replicate _ _,by rw[val_replicate,h1];simp,by rw[h1];simp⟩
theorem DvRel.digit {N V n k R:Nat}{o:List Nat}(h:DvRel N V n (k+1) R o) (hV:0 < V):dx (dig N) k+Bs * R < Bs * V∧(dx (dig N) k+Bs * R) / V < Bs:=by
  have h1:=dx_lt (digs_dig N) k
  have h2:R < V:=by rw[h.rest];exact Nat.mod_lt _ hV
  have h3:dx (dig N) k+Bs * R < Bs * V:=by
    have:Bs * (R+1)≤Bs * V:=Nat.mul_le_mul_left _ h2
    rw[Nat.mul_add] at this
    omega
  exact⟨h3,(Nat.div_lt_iff_lt_mul hV).2 h3⟩
theorem DvRel.step {N V n k R:Nat}{o:List Nat}(h:DvRel N V n (k+1) R o) (hk:k < n) (hV:0 < V):DvRel N V n k ((dx (dig N) k+Bs * R) % V) (o.set k ((dx (dig N) k+Bs * R) / V)):=by
  have hi:k < o.length:=by rw[h.len];exact hk
  have hd:=(h.digit hV).2
  have hT:N / Bs ^ k=dx (dig N) k+Bs * (N / Bs ^ (k+1)):=by
    rw[dx_dig,Nat.pow_succ,← Nat.div_div_eq_div_mul]
    exact(Nat.mod_add_div _ _).symm
  have hS:=Nat.mod_add_div (N / Bs ^ (k+1)) V
  rw[← h.rest] at hS
  have hT2:N / Bs ^ k=(dx (dig N) k+Bs * R)+V * (Bs * (N / Bs ^ (k+1) / V)):=by
    rw[hT]
    conv=> lhs;rw[← hS]
    grind
  refine⟨by rw[List.length_set];exact h.len,digs_set h.digs hd _,fun j hj=> ?_,?_,?_⟩
  · rw[dx_set hi,if_neg (by omega)]
    exact h.zero j (by omega)
  · have h0:=val_set hi ((dx (dig N) k+Bs * R) / V)
    rw[h.zero k (by omega),Nat.zero_mul,Nat.add_zero,h.quo] at h0
    rw[h0,hT2,Nat.add_mul_div_left _ _ hV,Nat.pow_succ]
    grind
  · rw[hT2,Nat.add_mul_mod_self_left]
theorem DvRel.skip {N V n k R:Nat}{o:List Nat}(h:DvRel N V n (k+1) R o) (hk:k < n) (hV:0 < V) (hlt:dx (dig N) k+Bs * R < V):DvRel N V n k (dx (dig N) k+Bs * R) o:=by
  have:=h.step hk hV
  rw[Nat.div_eq_of_lt hlt,Nat.mod_eq_of_lt hlt] at this
  have e:o.set k 0=o:=by
    apply List.ext_getElem (by simp)
    intro i h1 h2
    rw[List.getElem_set]
    split
    · rename_i he
      subst he
      have:=h.zero k (by omega)
      unfold dx at this
      rw[List.getD_eq_getElem?_getD,List.getElem?_eq_getElem h2] at this
      exact this.symm
    · rfl
  rwa [e] at this
theorem DvRel.stop {N V n R:Nat}{o:List Nat}(h:DvRel N V n 0 R o):val o=N / V∧R=N % V:=by
  have h1:=h.quo
  have h2:=h.rest
  simp only[Nat.pow_zero,Nat.div_one,Nat.mul_one] at h1 h2
  exact⟨h1,h2⟩
theorem digs_cons {l:List Nat}{x:Nat}(hx:x < Bs) (h:Digs l):Digs (x :: l):=by
  intro d hd
  rcases List.mem_cons.1 hd with rfl | hd
  · exact hx
  · exact h d hd

theorem l02Div_one (w:World) {A B:Option Addr}{n c d N M:Nat}(ha:IsN w A n c N) (hb:IsN w B 1 d M) (hn:n≤1048576) :
    Calls Tryz.prog 129 #[.slice A n c,.slice B 1 d] w (DivPost 3 w N M):=by
  obtain⟨h0,hM,hM0⟩:=dig_one hb.lenN
  obtain⟨bd,rfl,hltb,hcb⟩:=hb.atN (k:=0) (by omega)
  rw[h0] at hcb
  have hcb:w.cell? bd=some (.int .i64 (M:Int)):=by rw[← hcb,Addr.add_zero']
  clear h0
  go_enter Tryz.func129,Tryz.ntmps129
  go_wp2_with fail
  refine(l02Small_any _ ha hn hM0 hM).mono ?_
  rintro e w2 ⟨A',n',c',rfl,hO,hb2⟩
  have hr0:=Nat.mod_lt N hM0
  generalize hrr:N % M=r at *
  have hrr:=Lib.hid hrr;rename_i h_;clear h_
  go_wp2_with fail
  refine(sNatOf_any _ r (by omega)).mono ?_
  rintro e w3 ⟨A2,n2,c2,rfl,hO3,hb3⟩
  go_wp2_with fail
  go_ret2
  exact⟨_,_,_,_,_,_,rfl,hO.bl hb3,by rw[hrr.out];exact hO3.mono0 hb2.size,hb2.next hb3⟩
set_option maxRecDepth 100000 in
set_option maxHeartbeats 16000000 in
theorem l02Div_long (w:World) {A B:Option Addr}{n m c d N V:Nat}(ha:IsN w A n c N) (hb:IsN w B m d V) (hn:n≤1048570) (hm:m≤1048570) (h1:m≠1) (hV:0 < V) :
    Calls Tryz.prog 129 #[.slice A n c,.slice B m d] w (DivPost 3 w N V):=by
  have hne:((m:Int) == 1)=false:=by simp;omega
  have hmk:=make_ints (P:=Tryz.prog) Tryz.underlying27 info_int n n (Nat.le_refl _) (by omega)
  clear h1
  go_enter Tryz.func129,Tryz.ntmps129
  go_wp2_with fail
  clear hmk
  go_loopw [9,10] (fun rv i wr=> ∃ (k R:Nat) (o:List Nat) (A1:Option Addr) (n1 c1:Nat),k≤n∧rv=.slice A1 n1 c1∧i=.int .i64 ((k:Int) - 1)∧DvRel N V n k R o∧Ow 3 wr w.heap.size (ints o)∧OwI 3 (w.heap.size+1) wr A1 n1 c1 (ints (dig R))∧Bl w wr) (fun _ i _ =>(intOf i+1).toNat)
  case atStart=> exact⟨n,0,List.replicate n 0,_,_,_,Nat.le_refl _,rfl,rfl,DvRel.start ha.lenN,by rw[ints_replicate];exact(Ow.mk w n).alloc _,by rw[dig_zero];exact OwI.nil _ _ _ _,((Bl.refl w).alloc _).alloc _⟩
  case round =>
    obtain⟨k,R,o,A1,n1,c1,hk,rfl,rfl,hrel,hO,hR,hbw⟩:=hrel
    rcases k with _ | k
    · have hv:=Lib.hid hrel.stop
      have hlen:=hrel.len
      have hdg:=hrel.digs
      clear hrel
      go_wp2_with fail
      refine(l02Trim_any _ (l:=o) (RdI.of_ow hO (by rw[ints_len];exact hlen) (by omega)) hdg).mono ?_
      rintro e w1 ⟨m',rfl,hm',ht,hq⟩
      rw[hv.out.1] at ht
      have hO1:=(OwI.of_ow (c:=n) hO (Nat.le_refl _) (by rw[ints_len];exact hlen) (by omega) hm' ht).q hq
      have hR1:=hR.q hq
      have hbw1:=hbw.next (q_bl hq)
      go_wp2_with fail
      go_ret2
      exact⟨_,_,_,_,_,_,rfl,hO1,by rw[← hv.out.2];exact hR1.mono (by omega),hbw1⟩
    · obtain⟨ad,rfl,hlta,hca⟩:=(RdI.bl ha hbw).atN (k:=k) (by omega)
      rw[show (((k+1:Nat):Int) - 1)=(k:Int) from by omega]
      have hki:(k:Int) < (n:Int):=by omega
      have hkn:k < n:=by omega
      have bx:=dx_lt (digs_dig N) k
      have hdd:=hrel.digit hV
      have hst:=Lib.hid (hrel.step hkn hV)
      have hsk:=Lib.hid (hrel.skip hkn hV)
      have hdl:=hrel.len
      have hRV:R < V:=by rw[hrel.rest];exact Nat.mod_lt _ hV
      have hRl:n1≤m:=by
        rw[← hR.rd.lenN,← hb.lenN]
        exact dig_len_mono (Nat.le_of_lt hRV)
      clear hrel
      generalize dx (dig N) k=x at *
      have hdl:=Lib.hid hdl;rename_i h_;clear h_
      have hz1:w.heap.size+1≤wr.heap.size:=hO.lt
      have hxc:Digs (x :: dig R):=digs_cons bx (digs_dig R)
      rw[Bs_eq] at bx
      have hvx:val (x :: dig R)=x+Bs * R:=by rw[val,val_dig]
      have hvx:=Lib.hid hvx;rename_i h_;clear h_
      go_wp2_with (at_builtin;go_must (refine wpList_append_x (w0:=wr) info_int Tryz.underlying27 rfl (.tmp 41) (.tmp 42) rfl _ [(x:Int)] rfl (OwL.one wr _ (Nat.le_refl _)) ((Bl.refl wr).alloc _) A1 n1 c1 rfl (ints (dig R)) (hR.rd.alloc _) (by simp) (by omega) ?_);intro v' w1 hown1 hbw1)
      obtain⟨A2,c2,hv2,ho2⟩:=hown1.own (by have:=hR.rd.len;simp;omega)
      subst hv2
      have hl2:([(x:Int)] ++ ints (dig R)).length=n1+1:=by have:=hR.rd.len;simp;omega
      rw[hl2] at ho2
      have hl2:=Lib.hid hl2;rename_i h_;clear h_
      rw[hl2.out]
      have ho2:OwI 3 (w.heap.size+1) w1 A2 (n1+1) c2 (ints (x :: dig R)):=ho2.mono hz1
      refine(l02Trim_any _ ho2.rd hxc).mono ?_
      rintro e w2 ⟨m2,rfl,hm2,ht2,hq2⟩
      rw[hvx.out] at ht2
      have ho3:=(ho2.cutN hm2 ht2).q hq2
      have hO2:=(hO.bl hbw1).bl (q_bl hq2)
      have hbw2:=(hbw.next hbw1).next (q_bl hq2)
      clear ho2 hown1 hR hO ht2 hbw1 hq2 hxc
      by_cases hlt:x+Bs * R < V
      · have hc:cmpI ((x+Bs * R:Nat):Int) (V:Int) < 0:=by rw[cmpI_lt (by omega)];omega
        have hs:=Lib.hid (hsk.out hlt)
        generalize hcc:cmpI ((x+Bs * R:Nat):Int) (V:Int)=cc at hc
        clear hlt hdd
        go_wp2_with fail
        refine(l02Cmp_any _ ho3.rd (RdI.bl hb hbw2) (by omega) (by omega)).mono ?_
        rw[hcc]
        rintro e w3 ⟨rfl,q3,rfl⟩
        clear hcc
        have hbw3:Bl w (w2.drewN q3):=hbw2.drewN q3
        go_wp2_with fail
        go_roundw
        case rel=> exact⟨k,_,o,_,_,_,by omega,rfl,rfl,hs.out,hO2.drewN q3,ho3.q ⟨q3,rfl⟩,hbw3⟩
        case measure=> simp[intOf]
      · have hc:0≤cmpI ((x+Bs * R:Nat):Int) (V:Int):=by unfold cmpI;split <;> (try split) <;> omega
        have hge:V≤x+Bs * R:=Nat.le_of_not_lt hlt
        generalize hcc:cmpI ((x+Bs * R:Nat):Int) (V:Int)=cc at hc
        have hqq:=hdd.2
        rw[Bs_eq] at hqq
        rw[← Bs_eq] at hqq
        clear hlt
        go_wp2_with fail
        refine(l02Cmp_any _ ho3.rd (RdI.bl hb hbw2) (by omega) (by omega)).mono ?_
        rw[hcc]
        rintro e w3 ⟨rfl,q3,rfl⟩
        clear hcc
        have hbw3:Bl w (w2.drewN q3):=hbw2.drewN q3
        have ho4:=ho3.q (w':=w2.drewN q3) ⟨q3,rfl⟩
        have hO3:=hO2.drewN q3
        clear ho3 hO2
        generalize w2.drewN q3=w4 at *
        go_wp2_with fail
        refine(l02Digit_any _ ho4.rd (RdI.bl hb hbw3) (by omega) hm hV (by rw[← Bs_eq];exact hqq)).mono ?_
        rintro e w5 ⟨rfl,hb5⟩
        obtain⟨q,hq⟩:∃ q,q=(x+Bs * R) / V:=⟨_,rfl⟩
        rw[← hq]
        have hq9:q < 1000000000:=by rw[hq,← Bs_eq];exact hqq
        have hqV:V * q≤x+Bs * R:=by rw[hq];exact Nat.mul_div_le _ _
        have hmod:x+Bs * R - V * q=(x+Bs * R) % V:=by rw[hq];have:=Nat.div_add_mod (x+Bs * R) V;omega
        have hst:=hst.out
        rw[← hq,← hmod] at hst
        have hst:=Lib.hid hst;rename_i h_;clear h_
        have hq:=Lib.hid hq;rename_i h_;clear h_
        have hmod:=Lib.hid hmod;rename_i h_;clear h_
        have hO4:=hO3.bl hb5
        have ho5:=ho4.bl hb5
        have hb6:=hbw3.next hb5
        have hcell:=hO4.cell (k:=k) (by rw[ints_len,hdl.out];exact hkn)
        have hfr:=hO4.frozen k
        have hO5:=hO4.set k (q:Int)
        rw[← ints_set] at hO5
        have ho6:=ho5.far (p:=⟨w.heap.size,k,none⟩) (by simp) (.int .i64 (q:Int))
        have hb7:Bl w (w5.setCell ⟨w.heap.size,k,none⟩ (.int .i64 (q:Int))):=hb6.set (Nat.le_refl _) _
        clear hO3 ho4 hO4 ho5 hb6 hb5 hbw3 hdd hqq
        go_wp2_with fail
        clear hcell hfr
        generalize w5.setCell ⟨w.heap.size,k,none⟩ (.int .i64 (q:Int))=w6 at *
        have hlq:(dig q).length≤1:=dig_len_le.2 (by rw[Bs_eq];omega)
        have hlm:=dig_mul_len (Nat.le_of_eq hb.lenN) hlq
        refine(sNatOf_any _ q (by omega)).mono ?_
        rintro e w7 ⟨A5,n5,c5,rfl,hQ,hb8⟩
        have hl5:n5≤1:=by rw[← hQ.rd.lenN];exact hlq
        have hb9:=hb7.next hb8
        go_wp2_with fail
        refine(l02Mul_any _ (RdI.bl hb hb9) hQ.rd (by omega) (by omega)).mono ?_
        rintro e w8 ⟨A6,n6,c6,rfl,hQ2,hb10⟩
        have hb11:=hb9.next hb10
        have ho7:=(ho6.bl hb8).bl hb10
        have hO6:=(hO5.bl hb8).bl hb10
        go_wp2_with fail
        refine(l02Sub_any _ ho7.rd hQ2.rd (by omega) hqV).mono ?_
        rintro e w9 ⟨A7,n7,c7,rfl,hS,hb12⟩
        have hO7:=hO6.bl hb12
        have hS:=hS.mono (show w.heap.size+1≤w8.heap.size from hO6.lt)
        have hb13:=hb11.next hb12
        go_wp2_with fail
        go_roundw
        case rel=> exact⟨k,_,_,_,_,_,by omega,rfl,rfl,hst.out,hO7,hS,hb13⟩
        case measure=> simp[intOf]
theorem l02Div_any (w:World) {A B:Option Addr}{n m c d N V:Nat}(ha:IsN w A n c N) (hb:IsN w B m d V) (hn:n≤1048570) (hm:m≤1048570) (hV:0 < V) :
    Calls Tryz.prog 129 #[.slice A n c,.slice B m d] w (DivPost 3 w N V):=by
  by_cases h1:m=1
  · subst h1
    exact l02Div_one w ha hb (by omega)
  · exact l02Div_long w ha hb hn hm h1 hV
end

end Go.Proofs.YtjaapemopbbfaaaGreat
