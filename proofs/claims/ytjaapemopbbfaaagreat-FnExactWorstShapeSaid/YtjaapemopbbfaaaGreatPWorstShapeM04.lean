/- Lemmas. -/
import Derived.Test.YtjaapemopbbfaaaGreatRows
import Derived.Test.YtjaapemopbbfaaaGreatPWorstShapeM02
import Derived.Test.YtjaapemopbbfaaaGreatPWorstShapeM03
import Derived.Deep.QuietTactic
import Derived.BigQuiet
namespace Go.Proofs.YtjaapemopbbfaaaGreat
section
open Go.RowKit

theorem wpList_append_all {P:Program}{E t:TypeId}(hinfo:(P.info? E).map (fun i =>(i.zero,i.size,i.bytes))=some (some (.int .i64 0),1,8)) (ht:P.underlying t=some (.slice E))
    {w0 W:World}{ops:Array Oper}{rest:List Oper}{o:Oper}{a:Act}{Q:Exit→Act→World→Prop}(hgd:o.guard=none) (s x:Operand)
    (ho:o.op=.call { callee:=.builtin .append,args:=#[s,x],argTypes:=#[t,t] }) (v:Value) (l:List Int) (hs:a.eval s=v) (hown:OwL E w0.heap.size W v l) (hb:Bl w0 W)
    (ad:Addr) (m c:Nat) (hx:a.eval x=.slice (some ad) m c) (ys:List Int) (hr:RdI W (some ad) m c ys) (hlen:l.length≤1099511627776) (hm:m≤1099511627776)
    (h:∀ v' w',OwL E w0.heap.size w' v' (l ++ ys)→Bl w0 w'→wpList P ops Q rest (a.put o.dst v') w'):wpList P ops Q (o :: rest) a W:=by
  obtain⟨i0,hi,hz0,hz1,hz2⟩:=info_parts hinfo
  refine wpList_append_own _ hgd s x t ho w0.heap.size E i0 (.int .i64 0) 1 8 ht hi hz0 hz1 hz2 rfl (by omega) v l.length (l.map (Value.int .i64)) hs hown ad m c (ys.map (Value.int .i64)) hx (by simp[hr.len]) ?_ (by intro u hu;simp at hu;obtain⟨z,_,rfl⟩:=hu;rfl) (by simp only[maxLen];omega) (by omega) hb.size ?_
  · intro j u hu
    rw[List.getElem?_map] at hu
    have hj:j < m:=by
      rcases Nat.lt_or_ge j ys.length with h | h
      · rw[hr.len] at h;exact h
      · rw[List.getElem?_eq_none h] at hu;simp at hu
    obtain⟨ad',e,_,hc⟩:=hr.at_ hj
    injection e with e
    subst e
    rw[hc]
    rw[List.getElem?_eq_getElem (by rw[hr.len];exact hj)] at hu
    simp at hu
    rw[← hu]
    simp[ix,hr.len,hj]
  · intro v' w' h1 h2 _
    refine h v' w' ?_ (hb.grown h2 hown.blockLe)
    unfold OwL
    rw[List.length_append,hr.len]
    simpa using h1

set_option maxHeartbeats 1600000 in
theorem Clone_any (w:World) {A:Option Addr}{n c:Nat}{l:List Int}(h:RdI w A n c l) (hn:n≤1048576) :
    Calls Tryz.prog 121 #[.slice A n c] w fun e w'=> ∃ A' n' c',e=.returned (.slice A' n' c')∧OwI 3 w.heap.size w' A' n' c' l∧Bl w w':=by
  have he:∀ W a n c,(binOp .eql 27 (.slice a n c) (.slice none 0 0)).run Tryz.prog W=.ok (.bool a.isNone) W:=fun W a n c=> Lib.run_eql_slice_nil W 27 3 a n c 0 0 Tryz.underlying27
  have hl:=Lib.hid h.len
  rcases A with _ | ad
  · have hn0:n=0:=by
      rcases Nat.eq_zero_or_pos n with h0 | h0
      · exact h0
      · obtain⟨_,e,_⟩:=h.at_ h0
        cases e
    subst hn0
    have hl0:l=[]:=List.length_eq_zero_iff.1 hl.out
    subst hl0
    go_enter Tryz.func121,Tryz.ntmps121
    go_wp2
    go_ret
    exact⟨none,0,0,rfl,OwI.nil _ _ _ _,Bl.refl _⟩
  · go_enter Tryz.func121,Tryz.ntmps121
    go_wp2_with (at_builtin;go_must (refine wpList_append_all (w0:=w) info_int Tryz.underlying27 rfl (.tmp 5) (.tmp 6) rfl _ [] rfl (OwL.empty w (Nat.le_refl _) (by simp)) ((Bl.refl w).alloc _) ad n c rfl l (h.alloc _) (by simp) (by omega) ?_);intro v' w1 hown1 hbw1)
    obtain⟨A',c',hv,ho⟩:=hown1.own (by have:=hl.out;simp;omega)
    go_ret
    exact⟨A',_,c',congrArg Ending.returned hv,ho,hbw1⟩
end

section
open Go.RowKit

/-- What holds behind k rounds of a subtraction. -/
structure SubRel (N M n k br:Nat) (o:List Nat):Prop where
  len:o.length=n
  digs:Digs o
  small:br≤1
  diff:vf (dx o) k+vf (dx (dig M)) k=vf (dx (dig N)) k+br * Bs ^ k
  same:∀ j,k≤j→dx o j=dx (dig N) j
theorem SubRel.start {N M n:Nat}(h:(dig N).length=n):SubRel N M n 0 0 (dig N):=⟨h,digs_dig N,by omega,by simp[vf],fun _ _=> rfl⟩
theorem SubRel.step {N M n k br d br':Nat}{o:List Nat}(h:SubRel N M n k br o) (hk:k < n) (hd:d < Bs) (hb:br'≤1) (he:d+br+dx (dig M) k=dx (dig N) k+br' * Bs):SubRel N M n (k+1) br' (o.set k d):=by
  have hi:k < o.length:=by rw[h.len];exact hk
  refine⟨by rw[List.length_set];exact h.len,digs_set h.digs hd _,hb,?_,fun j hj=> ?_⟩
  · have h1:vf (dx (o.set k d)) k=vf (dx o) k:=vf_congr fun i hi'=> by rw[dx_set hi,if_neg (by omega)]
    have h2:=h.diff
    simp only[vf]
    rw[h1,dx_set hi,if_pos rfl,Nat.pow_succ]
    have h3:(d+br+dx (dig M) k) * Bs ^ k=(dx (dig N) k+br' * Bs) * Bs ^ k:=by rw[he]
    grind
  · rw[dx_set hi,if_neg (by omega)]
    exact h.same j (by omega)
theorem SubRel.stop {N M n br:Nat}{o:List Nat}(h:SubRel N M n n br o) (hn:(dig N).length=n) (hm:(dig M).length≤n) (hle:M≤N):val o=N - M:=by
  have h1:=h.diff
  rw[val_vf (by rw[h.len];exact Nat.le_refl _),val_vf hm,val_vf (by omega),val_dig,val_dig] at h1
  have h2:=val_lt h.digs
  rw[h.len] at h2
  have h3:=h.small
  rcases Nat.eq_zero_or_pos br with h0 | h0
  · subst h0;omega
  · obtain rfl:br=1:=by omega
    omega
theorem dig_len_mono {M N:Nat}(h:M≤N):(dig M).length≤(dig N).length:=by
  have:=val_lt (digs_dig N)
  rw[val_dig] at this
  exact dig_len_le.2 (by omega)

theorem ix_set {l:List Int}{k:Nat}(h:k < l.length) (x:Int):ix (l.set k x) k=x:=by simp[ix,h]
theorem Pre.drew1 {T:TypeId}{w:World}{g:Nat}{l:List Int}(h:Pre T w g l):Pre T w.drew g l:=h

set_option maxRecDepth 100000 in
set_option maxHeartbeats 8000000 in
theorem natSub_any (w:World) {A B:Option Addr}{n m c d N M:Nat}(ha:IsN w A n c N) (hb:IsN w B m d M) (hn:n≤1048576) (hle:M≤N) :
    Calls Tryz.prog 171 #[.slice A n c,.slice B m d] w fun e w'=> ∃ A' n' c',e=.returned (.slice A' n' c')∧OwI 3 w.heap.size w' A' n' c' (ints (dig (N - M)))∧Bl w w':=by
  have hm1:=dig_len_mono hle
  rw[ha.lenN,hb.lenN] at hm1
  go_enter Tryz.func171,Tryz.ntmps171
  go_wp2_with fail
  refine(Clone_any _ ha hn).mono ?_
  rintro e w1 ⟨A1,n1,c1,rfl,hown,hb1⟩
  obtain rfl:n1=n:=by have:=hown.rd.lenN;have:=ha.lenN;omega
  rcases Nat.eq_zero_or_pos n1 with h0 | h0
  · subst h0
    have hN:N=0:=by
      have:=ha.lenN
      exact dig_nil.1 (List.length_eq_zero_iff.1 this)
    have hv:=Lib.hid (show dig (N - M)=[] by rw[hN,Nat.zero_sub,dig_zero])
    go_wp2_with fail
    go_loop [6,12] (fun _ i=> i=.int .i64 0) (fun _ _=> 0)
    case atStart=> exact rfl
    case round =>
      obtain rfl:=hrel
      go_wp2_with fail
      refine(trimmed_any _ (l:=[]) (RdI.nil _ A1 c1) (fun d hd=> by cases hd)).mono ?_
      rintro e w2 ⟨m',rfl,hm',ht,hq⟩
      obtain rfl:m'=0:=by omega
      have hbw1:=hb1.next (q_bl hq)
      go_wp2_with fail
      go_ret
      exact⟨_,_,_,rfl,by rw[hv.out];exact OwI.nil _ _ _ _,hbw1⟩
  · obtain⟨g,rfl,hg,hpre⟩:=hown.pre h0
    have hcap:=hown.rd.cap
    clear hown
    go_wp2_with fail
    go_loopw [6,12] (fun b i wr=> ∃ (k br:Nat) (o:List Nat),k≤n1∧i=.int .i64 (k:Int)∧b=.int .i64 (br:Int)∧SubRel N M n1 k br o∧Pre 3 wr g (ints o)∧Bl w wr) (fun _ i _=> n1 - (intOf i).toNat)
    case atStart=> exact⟨0,0,dig N,Nat.zero_le _,rfl,rfl,SubRel.start ha.lenN,hpre,hb1⟩
    case round =>
      clear hpre hb1
      obtain⟨k,br,o,hk,rfl,rfl,hrel,hpre,hbw⟩:=hrel
      by_cases hkn:k < n1
      · have hki:(k:Int) < (n1:Int):=by omega
        have hbr:=hrel.small
        have hcell:=hpre.cell (k:=k) (by rw[ints_len,hrel.len];exact hkn)
        have hfr:=hpre.frozen k
        rw[ix_ints,hrel.same k (Nat.le_refl _)] at hcell
        have bz:=dx_lt (digs_dig N) k
        have bz':=Lib.hid (rfl:dx (dig N) k=dx (dig N) k)
        have bym:=dx_lt (digs_dig M) k
        rw[Bs_eq] at bz bym
        have hst:=fun d br' h1 h2 h3=> hrel.step (d:=d) (br':=br') hkn h1 h2 h3
        generalize dx (dig N) k=z at *
        obtain⟨y,hy⟩:∃ y,y=dx (dig M) k:=⟨_,rfl⟩
        rw[← hy] at hst bym
        have hy:=Lib.hid hy.symm;rename_i hyo;clear hyo
        by_cases hkm:k < m
        · have hkj:(k:Int) < (m:Int):=by omega
          have hpre1:=hpre.set_ (k:=k) (by rw[ints_len,hrel.len];exact hkn) ((z:Int) - (br:Int))
          go_wp2_with fail
          refine wp_gen (fun W=> Bl w W∧Pre 3 W g ((ints o).set k ((z:Int) - (br:Int)))) ⟨slc,hpre1⟩ ?_
          rintro W ⟨hbW,hpW⟩
          have hcW:=hpW.cell (k:=k) (by rw[List.length_set,ints_len,hrel.len];exact hkn)
          rw[ix_set (by rw[ints_len,hrel.len];exact hkn)] at hcW
          have hfW:=hpW.frozen k
          obtain⟨bd,rfl,hltb,hcb⟩:=(hb.bl hbW).atN hkm
          rw[hy.out] at hcb
          have hpre2:=hpW.set_ (k:=k) (by rw[List.length_set,ints_len,hrel.len];exact hkn) ((z:Int) - (br:Int) - (y:Int))
          go_still_tail 10,(by kernel_rfl)
          go_wp2_with fail
          · have ht:(z:Int) - (br:Int) - (y:Int) < 0:=by first | assumption | omega
            have hd:((z+Bs - br - y:Nat):Int)=(z:Int) - (br:Int) - (y:Int)+1000000000:=by rw[Bs_eq] at *;omega
            have hs:=hst (z+Bs - br - y) 1 (by rw[Bs_eq];omega) (by omega) (by rw[Bs_eq];omega)
            have hp3:=(hpre2.set_ (k:=k) (by simp only[List.length_set,ints_len,hrel.len];exact hkn) ((z:Int) - (br:Int) - (y:Int)+1000000000)).drew1
            simp only[List.set_set] at hp3
            rw[show (ints o).set k ((z:Int) - (br:Int) - (y:Int)+1000000000)=ints (o.set k (z+Bs - br - y)) from by rw[ints_set,hd]] at hp3
            go_roundw
            case rel=> exact⟨k+1,1,_,by omega,by go_num,rfl,hs,hp3,slc⟩
            case measure=> simp[intOf];omega
          · have ht:¬ (z:Int) - (br:Int) - (y:Int) < 0:=by first | assumption | omega
            have hd:((z - br - y:Nat):Int)=(z:Int) - (br:Int) - (y:Int):=by omega
            have hs:=hst (z - br - y) 0 (by rw[Bs_eq];omega) (by omega) (by rw[Bs_eq];omega)
            have hp3:=hpre2.drew1
            try simp only[List.set_set] at hp3
            rw[show (ints o).set k ((z:Int) - (br:Int) - (y:Int))=ints (o.set k (z - br - y)) from by rw[ints_set,hd]] at hp3
            go_roundw
            case rel=> exact⟨k+1,0,_,by omega,by go_num,rfl,hs,hp3,slc⟩
            case measure=> simp[intOf];omega
        · have hy0:dx (dig M) k=0:=dx_beyond (by rw[hb.lenN];omega)
          have hkj:¬ (k:Int) < (m:Int):=by omega
          have hyz:y=0:=by rw[← hy.out];exact hy0
          clear hy hy0
          subst hyz
          have hpre1:=hpre.set_ (k:=k) (by rw[ints_len,hrel.len];exact hkn) ((z:Int) - (br:Int))
          go_wp2_with fail
          · have ht:(z:Int) - (br:Int) < 0:=by first | assumption | omega
            have hd:((z+Bs - br:Nat):Int)=(z:Int) - (br:Int)+1000000000:=by rw[Bs_eq] at *;omega
            have hs:=hst (z+Bs - br) 1 (by rw[Bs_eq];omega) (by omega) (by rw[Bs_eq];omega)
            have hp3:=(hpre1.set_ (k:=k) (by simp only[List.length_set,ints_len,hrel.len];exact hkn) ((z:Int) - (br:Int)+1000000000))
            simp only[List.set_set] at hp3
            rw[show (ints o).set k ((z:Int) - (br:Int)+1000000000)=ints (o.set k (z+Bs - br)) from by rw[ints_set,hd]] at hp3
            go_roundw
            case rel=> exact⟨k+1,1,_,by omega,by go_num,rfl,hs,hp3,slc⟩
            case measure=> simp[intOf];omega
          · have ht:¬ (z:Int) - (br:Int) < 0:=by first | assumption | omega
            have hd:((z - br:Nat):Int)=(z:Int) - (br:Int):=by omega
            have hs:=hst (z - br) 0 (by rw[Bs_eq];omega) (by omega) (by rw[Bs_eq];omega)
            have hp3:=hpre1
            try simp only[List.set_set] at hp3
            rw[show (ints o).set k ((z:Int) - (br:Int))=ints (o.set k (z - br)) from by rw[ints_set,hd]] at hp3
            go_roundw
            case rel=> exact⟨k+1,0,_,by omega,by go_num,rfl,hs,hp3,slc⟩
            case measure=> simp[intOf];omega
      · obtain rfl:k=n1:=by omega
        have hv:=Lib.hid (hrel.stop ha.lenN (by rw[hb.lenN];omega) hle)
        have hlen:=hrel.len
        have hdg:=hrel.digs
        clear hrel
        go_wp2_with fail
        refine(trimmed_any _ (l:=o) (hpre.rd (c:=c1) (by rw[ints_len];exact hlen) (by omega) hcap) hdg).mono ?_
        rintro e w2 ⟨m',rfl,hm',ht,hq⟩
        rw[hv.out] at ht
        have hO1:=(hpre.cutN hg hlen (by omega) hcap hm' ht).q hq
        have hbw1:=hbw.next (q_bl hq)
        go_wp2_with fail
        go_ret
        exact⟨_,_,_,rfl,hO1,hbw1⟩
end

section
/-! The quotient's digit in a division by more than one limb: plain arithmetic over a base B; P is B^(n-2). -/
section
variable {B P v1 v2 Vl top u2 Wl q rest:Nat}
theorem kn_init {t:Nat}(hu2:u2 < B) (hWl:Wl < P) (h:t * (v1 * (B * P)+v2 * P+Vl)≤top * (B * P)+u2 * P+Wl):t * v1≤top:=by
  have h1:(u2+1) * P≤B * P:=Nat.mul_le_mul_right P hu2
  have h2:t * (v1 * (B * P))≤t * (v1 * (B * P)+v2 * P+Vl):=Nat.mul_le_mul_left t (by omega)
  rw[← Nat.mul_assoc] at h2
  rw[Nat.add_mul] at h1
  rcases Nat.lt_or_ge top (t * v1) with hlt | hge
  · have h3:(top+1) * (B * P)≤(t * v1) * (B * P):=Nat.mul_le_mul_right _ hlt
    rw[Nat.add_mul] at h3
    omega
  · exact hge
theorem kn_step (hr:rest+q * v1=top) (hWl:Wl < P) (h:rest * B+u2 < q * v2):top * (B * P)+u2 * P+Wl < q * (v1 * (B * P)+v2 * P+Vl):=by
  have h1:(rest * B+u2+1) * P≤(q * v2) * P:=Nat.mul_le_mul_right P h
  rw[Nat.add_mul,Nat.add_mul,Nat.mul_assoc,Nat.mul_assoc] at h1
  rw[← hr,Nat.add_mul,Nat.mul_add,Nat.mul_add,Nat.mul_assoc q v1]
  omega
theorem kn_exit1 (hq:q < B) (hr:rest+q * v1=top) (hv1:0 < v1) (hVl:Vl < P) (h:q * v2≤rest * B+u2):q * (v1 * (B * P)+v2 * P+Vl)≤(top * (B * P)+u2 * P+Wl)+(v1 * (B * P)+v2 * P+Vl):=by
  have h1:(q * v2) * P≤(rest * B+u2) * P:=Nat.mul_le_mul_right P h
  rw[Nat.add_mul,Nat.mul_assoc,Nat.mul_assoc] at h1
  have h2:q * Vl≤B * P:=Nat.mul_le_mul (by omega) (by omega)
  have h3:1 * (B * P)≤v1 * (B * P):=Nat.mul_le_mul_right _ hv1
  rw[← hr,Nat.add_mul,Nat.mul_add,Nat.mul_add,Nat.mul_assoc q v1]
  omega
theorem kn_exit2 (hq:q < B) (hr:rest+q * v1=top) (hv2:v2 < B) (hVl:Vl < P) (h:B≤rest):q * (v1 * (B * P)+v2 * P+Vl)≤(top * (B * P)+u2 * P+Wl)+(v1 * (B * P)+v2 * P+Vl):=by
  have h1:(v2+1) * P≤B * P:=Nat.mul_le_mul_right P hv2
  rw[Nat.add_mul] at h1
  have h2:q * (v2 * P+Vl)≤B * (B * P):=Nat.mul_le_mul (by omega) (by omega)
  have h3:B * (B * P)≤rest * (B * P):=Nat.mul_le_mul_right _ h
  rw[← hr,Nat.add_mul,Nat.add_assoc (v1 * (B * P)),Nat.mul_add,Nat.mul_assoc q v1]
  omega
end

theorem vf_split (f:Nat→Nat) (j m:Nat):vf f (j+m)=vf f j+Bs ^ j * vf (fun i=> f (j+i)) m:=by
  induction m with
  | zero=> simp[vf]
  | succ m ih =>
    rw[← Nat.add_assoc,vf,ih]
    simp only[vf]
    rw[Nat.mul_add,Nat.pow_add,Nat.add_assoc,← Nat.mul_assoc,Nat.mul_comm (f (j+m)),Nat.mul_assoc]
theorem vf_top2 (f:Nat→Nat) (n:Nat):vf f (n+3)=(f (n+2) * Bs+f (n+1)) * (Bs * Bs ^ n)+f n * Bs ^ n+vf f n:=by
  simp only[vf]
  have e1:Bs ^ (n+1)=Bs * Bs ^ n:=by rw[Nat.pow_succ,Nat.mul_comm]
  have e2:Bs ^ (n+2)=Bs * (Bs * Bs ^ n):=by rw[Nat.pow_succ,e1,Nat.mul_comm]
  rw[e2,e1,Nat.add_mul,Nat.mul_assoc (f (n+2)) Bs]
  omega
theorem vf_top1 (f:Nat→Nat) (n:Nat):vf f (n+2)=f (n+1) * (Bs * Bs ^ n)+f n * Bs ^ n+vf f n:=by
  simp only[vf]
  rw[Nat.pow_succ,Nat.mul_comm (Bs ^ n) Bs]
  omega

/-- The state of a long division when K digits are still to come. N: the number to divide (scaled), V: the divisor (scaled). -/
structure LdRel (N V n L K:Nat) (us os:List Nat):Prop where
  lenU:us.length=L+1
  lenO:os.length=L - n+1
  digU:Digs us
  digO:Digs os
  sum:val os * V+val us=N
  part:vf (fun i=> dx us (K+i)) n < V
  high:∀ j,K+n≤j→dx us j=0
  low:∀ j,j < K→dx os j=0
theorem LdRel.window {N V n L K:Nat}{us os:List Nat}(h:LdRel N V n L (K+1) us os):vf (fun i=> dx us (K+i)) (n+1) < Bs * V:=by
  have h1:vf (fun i=> dx us (K+i)) (n+1)=dx us K+Bs * vf (fun i=> dx us (K+1+i)) n:=by
    rw[vf_shift]
    rw[Nat.add_zero]
    congr 2
    exact vf_congr fun i _=> by rw[Nat.add_assoc,Nat.add_comm 1 i]
  have h2:=h.part
  have h3:=dx_lt h.digU K
  have h4:=Nat.mul_le_mul_left Bs (show vf (fun i=> dx us (K+1+i)) n+1≤V from h2)
  rw[Nat.mul_add] at h4
  omega
/-- One digit more: the window W is replaced by W mod V. -/
theorem LdRel.step {N V n L K q:Nat}{us us' os:List Nat}(h:LdRel N V n L (K+1) us os) (hK:K+n≤L) (hVn:V < Bs ^ n) (hlen:us'.length=us.length) (hdig:Digs us')
    (hq:q=vf (fun i=> dx us (K+i)) (n+1) / V) (hw:vf (fun i=> dx us' (K+i)) (n+1)=vf (fun i=> dx us (K+i)) (n+1) % V) (hsame:∀ j,(j < K∨K+n < j)→dx us' j=dx us j) (hn:n≤L) :
    LdRel N V n L K us' (os.set K q):=by
  have hwin:=h.window
  have hV0:0 < V:=by
    rcases Nat.eq_zero_or_pos V with h0 | h0
    · rw[h0] at hwin;omega
    · exact h0
  have hqB:q < Bs:=by rw[hq,Nat.div_lt_iff_lt_mul hV0];exact hwin
  have hi:K < os.length:=by rw[h.lenO];omega
  have hmod:=Nat.mod_lt (vf (fun i=> dx us (K+i)) (n+1)) hV0
  have htop:dx us' (K+n)=0:=by
    rcases Nat.eq_zero_or_pos (dx us' (K+n)) with h0 | h0
    · exact h0
    · have e1:vf (fun i=> dx us' (K+i)) (n+1)=vf (fun i=> dx us' (K+i)) n+dx us' (K+n) * Bs ^ n:=rfl
      have:=Nat.mul_le_mul_right (Bs ^ n) h0
      omega
  have hpart:vf (fun i=> dx us' (K+i)) n=vf (fun i=> dx us (K+i)) (n+1) % V:=by
    rw[← hw]
    have e1:vf (fun i=> dx us' (K+i)) (n+1)=vf (fun i=> dx us' (K+i)) n+dx us' (K+n) * Bs ^ n:=rfl
    rw[e1,htop];omega
  refine⟨by rw[hlen];exact h.lenU,by rw[List.length_set];exact h.lenO,hdig,digs_set h.digO hqB _,?_,by rw[hpart];exact hmod,fun j hj=> ?_,fun j hj=> ?_⟩
  · have h1:=val_set hi q
    rw[h.low K (by omega)] at h1
    have h2:=h.sum
    have split:∀ w:List Nat,w.length=L+1→(∀ j,K+n+1≤j→dx w j=0)→val w=vf (dx w) K+Bs ^ K * vf (fun i=> dx w (K+i)) (n+1):=fun w hl hz=> by
      rw[← vf_split,← val_vf (l:=w) (k:=L+1) (by omega)]
      exact vf_zero (fun i h1 _=> hz i (by omega)) (by omega)
    have s1:=split us h.lenU (fun j hj=> h.high j (by omega))
    have s2:=split us' (by rw[hlen];exact h.lenU) (fun j hj=> by rw[hsame j (by omega)];exact h.high j (by omega))
    have e1:vf (dx us') K=vf (dx us) K:=vf_congr fun i hi=> hsame i (by omega)
    have h3:=Nat.mod_add_div (vf (fun i=> dx us (K+i)) (n+1)) V
    rw[← hq,← hw] at h3
    rw[s2,e1]
    rw[s1,← h3,Nat.mul_add] at h2
    have h4:val (os.set K q) * V=val os * V+Bs ^ K * (V * q):=by
      have:val (os.set K q)=val os+q * Bs ^ K:=by omega
      rw[this,Nat.add_mul,Nat.mul_comm q (Bs ^ K),Nat.mul_assoc,Nat.mul_comm q V]
    omega
  · rcases Nat.eq_or_lt_of_le hj with e | hlt
    · rw[← e];exact htop
    · rw[hsame j (.inr hlt)];exact h.high j (by omega)
  · rw[dx_set hi,if_neg (by omega)]
    exact h.low j (by omega)
theorem LdRel.stop {a b s n L:Nat}{us os:List Nat}(h:LdRel (s * a) (s * b) n L 0 us os) (hs:0 < s):val os=a / b∧val us=s * (a % b)∧vf (dx us) n=val us:=by
  have h1:vf (dx us) n=val us:=by
    rcases Nat.lt_or_ge (L+1) n with hl | hl
    · exact val_vf (by rw[h.lenU];omega)
    · rw[← val_vf (l:=us) (k:=L+1) (by rw[h.lenU];omega)]
      exact(vf_zero (fun i h1 _=> h.high i (by omega)) hl).symm
  have h2:=h.part
  simp only[Nat.zero_add] at h2
  have h3:vf (fun i=> dx us i) n=vf (dx us) n:=rfl
  rw[h3,h1] at h2
  have h4:=h.sum
  have hb:0 < s * b:=by omega
  have q1:s * a / (s * b)=val os:=by
    rw[← h4,Nat.mul_comm (val os),Nat.mul_add_div hb,Nat.div_eq_of_lt h2];omega
  have q2:s * a % (s * b)=val us:=by
    rw[← h4,Nat.mul_comm (val os),Nat.mul_add_mod,Nat.mod_eq_of_lt h2]
  rw[Nat.mul_div_mul_left _ _ hs] at q1
  rw[Nat.mul_mod_mul_left] at q2
  exact⟨q1.symm,q2.symm,h1⟩
theorem LdRel.start {a b s n L:Nat}{us:List Nat}(hU:us.length=L+1) (hd:Digs us) (hv:val us=s * a) (ha:a < Bs ^ L) (hb:Bs ^ (n - 1)≤b) (hs:0 < s) (hn:0 < n) (hnL:n≤L) :
    LdRel (s * a) (s * b) n L (L - n+1) us (List.replicate (L - n+1) 0):=by
  refine⟨hU,by simp,hd,digs_replicate _,by rw[val_replicate,hv];omega,?_,fun j hj=> dx_beyond (by rw[hU];omega),fun j _=> dx_replicate _ _⟩
  have h1:val us=vf (dx us) (L - n+1)+Bs ^ (L - n+1) * vf (fun i=> dx us (L - n+1+i)) n:=by
    rw[← vf_split,val_eq_vf,hU]
    congr 1
    omega
  rcases Nat.lt_or_ge (vf (fun i=> dx us (L - n+1+i)) n) (s * b) with hlt | hge
  · exact hlt
  · have h2:=Nat.mul_le_mul_left (Bs ^ (L - n+1)) hge
    have h3:Bs ^ (L - n+1) * (s * Bs ^ (n - 1))≤Bs ^ (L - n+1) * (s * b):=Nat.mul_le_mul_left _ (Nat.mul_le_mul_left _ hb)
    have h4:Bs ^ (L - n+1) * (s * Bs ^ (n - 1))=s * Bs ^ L:=by
      rw[← Nat.mul_assoc,Nat.mul_comm _ s,Nat.mul_assoc,← Nat.pow_add]
      congr 2
      omega
    have h5:s * (a+1)≤s * Bs ^ L:=Nat.mul_le_mul_left s ha
    rw[Nat.mul_add] at h5
    omega
/-- The digit after the subtraction, and after the addition that mends it. -/
theorem kn_digit {W W1 W2 V q r c n:Nat}(hV0:0 < V) (hVn:V < Bs ^ n) (h1:W / V≤q) (h2:q≤W / V+1) (hs:W1+q * V=W+r * Bs ^ (n+1)) (hw1:W1 < Bs ^ (n+1)) :
    (r=0→q=W / V∧W1=W % V)∧(r=1→q - 1=W / V∧0 < q∧(W2+c * Bs ^ (n+1)=W1+V→W2 < Bs ^ (n+1)→W2=W % V)):=by
  have hbig:V < Bs ^ (n+1):=by
    rw[Nat.pow_succ]
    have:=Nat.mul_le_mul_left (Bs ^ n) Bs_pos
    omega
  generalize Bs ^ (n+1)=M at *
  have hdm:=Nat.mod_add_div W V
  have hlt:=Nat.mod_lt W hV0
  have hle:q * V≤(W / V+1) * V:=Nat.mul_le_mul_right V h2
  have hge:(W / V) * V≤q * V:=Nat.mul_le_mul_right V h1
  rw[Nat.add_mul] at hle
  rw[Nat.mul_comm V] at hdm
  constructor
  · intro h0
    rw[h0,Nat.zero_mul] at hs
    have hq:q=W / V:=by
      rcases Nat.eq_or_lt_of_le h1 with e | hl
      · exact e.symm
      · have:(W / V+1) * V≤q * V:=Nat.mul_le_mul_right V hl
        rw[Nat.add_mul] at this
        omega
    refine⟨hq,?_⟩
    rw[hq] at hs
    omega
  · intro h0
    rw[h0,Nat.one_mul] at hs
    have hq:q=W / V+1:=by
      rcases Nat.eq_or_lt_of_le h1 with e | hl
      · have e2:(W / V) * V=q * V:=by rw[e]
        omega
      · omega
    refine⟨by rw[hq,Nat.add_sub_cancel],by rw[hq];exact Nat.succ_pos _,fun h3 h4=> ?_⟩
    rw[hq,Nat.add_mul] at hs
    rcases Nat.lt_or_ge c 2 with hc | hc
    · rcases Nat.eq_zero_or_pos c with h0 | h0
      · subst h0;omega
      · obtain rfl:c=1:=by omega
        omega
    · have:=Nat.mul_le_mul_right M hc
      omega
end

section
open Go.RowKit

theorem isNaN_any (a:Int) (w:World) :
    Calls Tryz.prog 177 #[.int .i64 a] w fun e w'=> e=.returned (.bool false)∧∃ q,w'=w.drewN q:=by
  go_enter Tryz.func177,Tryz.ntmps177
  go_wp2
  go_ret
  exact⟨by simp,0,rfl⟩

def cmpI (a b:Int):Int:=if a < b then -1 else if b < a then 1 else 0

set_option maxHeartbeats 1600000 in
theorem compare_any (a b:Int) (w:World) :
    Calls Tryz.prog 168 #[.int .i64 a,.int .i64 b] w fun e w'=> e=.returned (.int .i64 (cmpI a b))∧∃ q,w'=w.drewN q:=by
  unfold cmpI
  go_enter Tryz.func168,Tryz.ntmps168
  go_wp2_with (go_at_call 177;refine(isNaN_any _ _).mono ?_;rintro e w' ⟨rfl,_,rfl⟩)
  all_goals (go_ret;exact⟨by simp[*],_,rfl⟩)

theorem cmpI_lt {a b:Int}(h:a < b):cmpI a b=-1:=if_pos h
theorem cmpI_gt {a b:Int}(h:b < a):cmpI a b=1:=by unfold cmpI;rw[if_neg (by omega),if_pos h]
theorem cmpI_eq {a b:Int}(h:a=b):cmpI a b=0:=by unfold cmpI;rw[if_neg (by omega),if_neg (by omega)]
theorem cmp_len {N M n m:Nat}(hn:(dig N).length=n) (hm:(dig M).length=m) (h:n≠m):cmpI (n:Int) (m:Int)=cmpI (N:Int) (M:Int):=by
  rcases Nat.lt_or_ge n m with hlt | hge
  · have:N < M:=by
      rcases Nat.lt_or_ge N M with h1 | h1
      · exact h1
      · have:=dig_len_mono h1;omega
    rw[cmpI_lt (by omega),cmpI_lt (by omega)]
  · have:M < N:=by
      rcases Nat.lt_or_ge M N with h1 | h1
      · exact h1
      · have:=dig_len_mono h1;omega
    rw[cmpI_gt (by omega),cmpI_gt (by omega)]
theorem cmp_dx {f g:Nat→Nat}{k m:Nat}(hf:∀ i,f i < Bs) (_hg:∀ i,g i < Bs) (ha:∀ j,k+1≤j→f j=g j) (h:f k < g k):vf f (k+1+m) < vf g (k+1+m):=by
  rw[vf_split f (k+1) m,vf_split g (k+1) m,show vf (fun i=> f (k+1+i)) m=vf (fun i=> g (k+1+i)) m from vf_congr fun i _=> ha _ (by omega)]
  have h1:=vf_lt (f:=f) (k:=k) fun i _=> hf i
  have h2:(f k+1) * Bs ^ k≤g k * Bs ^ k:=Nat.mul_le_mul_right _ h
  rw[Nat.add_mul] at h2
  simp only[vf]
  omega
theorem cmp_digit {N M n k:Nat}(hn:(dig N).length=n) (hm:(dig M).length=n) (hk:k < n) (ha:∀ j,k+1≤j→dx (dig N) j=dx (dig M) j) (h:dx (dig N) k≠dx (dig M) k):cmpI (dx (dig N) k:Int) (dx (dig M) k:Int)=cmpI (N:Int) (M:Int):=by
  obtain⟨m,rfl⟩:∃ m,n=k+1+m:=⟨n - (k+1),by omega⟩
  have e1:vf (dx (dig N)) (k+1+m)=N:=by rw[val_vf (by omega),val_dig]
  have e2:vf (dx (dig M)) (k+1+m)=M:=by rw[val_vf (by omega),val_dig]
  rcases Nat.lt_or_ge (dx (dig N) k) (dx (dig M) k) with hlt | hge
  · have:=cmp_dx (m:=m) (dx_lt (digs_dig N)) (dx_lt (digs_dig M)) ha hlt
    rw[cmpI_lt (by omega),cmpI_lt (by omega)]
  · have:=cmp_dx (m:=m) (dx_lt (digs_dig M)) (dx_lt (digs_dig N)) (fun j hj =>(ha j hj).symm) (show dx (dig M) k < dx (dig N) k by omega)
    rw[cmpI_gt (by omega),cmpI_gt (by omega)]
theorem cmp_same {N M n:Nat}(hn:(dig N).length=n) (hm:(dig M).length=n) (ha:∀ j,0≤j→dx (dig N) j=dx (dig M) j):0=cmpI (N:Int) (M:Int):=by
  have e1:vf (dx (dig N)) n=N:=by rw[val_vf (by omega),val_dig]
  have e2:vf (dx (dig M)) n=M:=by rw[val_vf (by omega),val_dig]
  have:vf (dx (dig N)) n=vf (dx (dig M)) n:=vf_congr fun i _=> ha i (Nat.zero_le _)
  exact(cmpI_eq (by omega)).symm

set_option maxHeartbeats 4000000 in
theorem natCmp_any (w:World) {A B:Option Addr}{n m c d N M:Nat}(ha:IsN w A n c N) (hb:IsN w B m d M) (hn:n≤2097152) (hm:m≤2097152) :
    Calls Tryz.prog 153 #[.slice A n c,.slice B m d] w fun e w'=> e=.returned (.int .i64 (cmpI N M))∧∃ q,w'=w.drewN q:=by
  have hnl:=Lib.hid ha.lenN
  have hml:=Lib.hid hb.lenN
  by_cases hnm:n=m
  · subst hnm
    go_enter Tryz.func153,Tryz.ntmps153
    go_wp2
    go_loopw [5] (fun i wr=> ∃ k:Nat,k≤n∧i=.int .i64 ((k:Int) - 1)∧Hid (∀ j,k≤j→dx (dig N) j=dx (dig M) j)∧∃ q,wr=w.drewN q) (fun i _ =>(intOf i+1).toNat)
    case atStart=> exact⟨n,Nat.le_refl _,rfl,fun j hj=> by rw[dx_beyond (by rw[hnl.out];exact hj),dx_beyond (by rw[hml.out];exact hj)],0,rfl⟩
    case round =>
      obtain⟨k,hk,rfl,heq,q,rfl⟩:=hrel
      rcases k with _ | k
      · go_wp2
        go_ret
        exact⟨ret_int (cmp_same hnl.out hml.out heq.out),q,rfl⟩
      · have hkn:k < n:=hk
        obtain⟨ad,rfl,hlta,hca⟩:=ha.atN (k:=k) (by omega)
        obtain⟨bd,rfl,hltb,hcb⟩:=hb.atN (k:=k) (by omega)
        rw[show (((k+1:Nat):Int) - 1)=(k:Int) from by omega]
        by_cases he:dx (dig N) k=dx (dig M) k
        · have hs:Hid (∀ j,k≤j→dx (dig N) j=dx (dig M) j):=fun j hj=> by
            rcases Nat.eq_or_lt_of_le hj with rfl | hlt
            · exact he
            · exact heq.out j hlt
          clear heq
          have hbeq:((dx (dig N) k:Int) != (dx (dig M) k:Int))=false:=by simp[he]
          clear he
          go_wp2
          go_quiet (fail)
          go_wp2
          go_roundw
          case rel=> exact⟨k,by omega,rfl,hs,_,rfl⟩
          case measure=> simp[intOf]
        · have hs:=Lib.hid (cmp_digit hnl.out hml.out hkn heq.out he);clear heq
          have hbeq:((dx (dig N) k:Int) != (dx (dig M) k:Int))=true:=by simp;omega
          clear he
          go_wp2
          go_quiet (fail)
          go_wp2
          go_quiet ((go_at_call 168;exact quiet_add (compare_any _ _ _)))
          go_wp2
          go_ret
          exact⟨ret_int hs.out,q_drewN (q_drewN ⟨_,rfl⟩)⟩
  · have heq:=Lib.hid (cmp_len hnl.out hml.out hnm)
    have hne:((n:Int) != (m:Int))=true:=by simp;omega
    go_enter Tryz.func153,Tryz.ntmps153
    go_wp2_with (go_at_call 168;refine(compare_any _ _ _).mono ?_;rintro e w' ⟨rfl,_,rfl⟩)
    go_ret
    exact⟨ret_int heq.out,_,rfl⟩
end

section
open Go.RowKit

/-- What holds of a division by a limb when the limbs from k up are done. -/
structure DivRel (N d n k r:Nat) (o:List Nat):Prop where
  len:o.length=n
  digs:Digs o
  small:r < d
  sum:val o * d+r * Bs ^ k+vf (dx (dig N)) k=N
  rest:∀ j,j < k→dx o j=0
theorem DivRel.start {N d n:Nat}(h:(dig N).length=n) (hd:0 < d):DivRel N d n n 0 (List.replicate n 0) :=
  ⟨by simp,digs_replicate _,hd,by rw[val_replicate,val_vf (by omega),val_dig];omega,fun j _=> dx_replicate _ _⟩
theorem div_limb {r d a:Nat}(hr:r < d) (ha:a < Bs):(r * Bs+a) / d < Bs:=by
  rw[Nat.div_lt_iff_lt_mul (by omega)]
  have:=Nat.mul_le_mul_right Bs (show r+1≤d by omega)
  rw[Nat.add_mul] at this
  rw[Nat.mul_comm Bs d]
  omega
theorem DivRel.step {N d n k r:Nat}{o:List Nat}(h:DivRel N d n (k+1) r o) (hk:k < n) :
    DivRel N d n k ((r * Bs+dx (dig N) k) % d) (o.set k ((r * Bs+dx (dig N) k) / d)):=by
  have hi:k < o.length:=by rw[h.len];exact hk
  have hd0:0 < d:=by have:=h.small;omega
  refine⟨by rw[List.length_set];exact h.len,digs_set h.digs (div_limb h.small (dx_lt (digs_dig N) k)) _,Nat.mod_lt _ hd0,?_,fun j hj=> ?_⟩
  · have h1:=val_set hi ((r * Bs+dx (dig N) k) / d)
    rw[h.rest k (by omega)] at h1
    have h2:=h.sum
    have h3:=Nat.mod_add_div (r * Bs+dx (dig N) k) d
    simp only[vf] at h2
    rw[Nat.pow_succ] at h2
    generalize (r * Bs+dx (dig N) k) % d=s at *
    generalize (r * Bs+dx (dig N) k) / d=q at *
    have h4:(s+d * q) * Bs ^ k=(r * Bs+dx (dig N) k) * Bs ^ k:=by rw[h3]
    grind
  · rw[dx_set hi,if_neg (by omega)]
    exact h.rest j (by omega)
theorem DivRel.stop {N d n r:Nat}{o:List Nat}(h:DivRel N d n 0 r o):val o=N / d∧r=N % d:=by
  have h1:=h.sum
  have h2:=h.small
  simp only[vf,Nat.pow_zero,Nat.mul_one,Nat.add_zero] at h1
  have h3:N / d=val o:=by
    rw[← h1,Nat.mul_comm,Nat.mul_add_div (by omega),Nat.div_eq_of_lt h2];omega
  have h4:N % d=r:=by
    rw[← h1,Nat.mul_comm,Nat.mul_add_mod,Nat.mod_eq_of_lt h2]
  exact⟨h3.symm,h4.symm⟩

set_option maxHeartbeats 4000000 in
theorem divSmall_any (w:World) {A:Option Addr}{n c N d:Nat}(ha:IsN w A n c N) (hn:n≤1048576) (hd0:0 < d) (hdB:d < 1000000000) :
    Calls Tryz.prog 172 #[.slice A n c,.int .i64 (d:Int)] w fun e w'=> ∃ A' n' c',e=.returned (.tuple #[.slice A' n' c',.int .i64 ((N % d:Nat):Int)])∧OwI 3 w.heap.size w' A' n' c' (ints (dig (N / d)))∧Bl w w':=by
  have hmk:=make_ints (P:=Tryz.prog) Tryz.underlying27 info_int n n (Nat.le_refl _) (by omega)
  go_enter Tryz.func172,Tryz.ntmps172
  go_wp2_with fail
  clear hmk
  go_loopw [7,8] (fun rv i wr=> ∃ (k r:Nat) (o:List Nat),k≤n∧i=.int .i64 ((k:Int) - 1)∧rv=.int .i64 (r:Int)∧DivRel N d n k r o∧Ow 3 wr w.heap.size (ints o)∧Bl w wr) (fun _ i _ =>(intOf i+1).toNat)
  case atStart=> exact⟨n,0,List.replicate n 0,Nat.le_refl _,rfl,rfl,DivRel.start ha.lenN hd0,by rw[ints_replicate];exact Ow.mk w n,(Bl.refl w).alloc _⟩
  case round =>
    obtain⟨k,r,o,hk,rfl,rfl,hrel,hO,hbw⟩:=hrel
    rcases k with _ | k
    · have hv:=Lib.hid hrel.stop
      have hlen:=hrel.len
      have hdg:=hrel.digs
      clear hrel
      go_wp2_with fail
      refine(trimmed_any _ (l:=o) (RdI.of_ow hO (by rw[ints_len];exact hlen) (by omega)) hdg).mono ?_
      rintro e w1 ⟨m',rfl,hm',ht,hq⟩
      rw[hv.out.1] at ht
      have hO1:=(OwI.of_ow (c:=n) hO (Nat.le_refl _) (by rw[ints_len];exact hlen) (by omega) hm' ht).q hq
      have hbw1:=hbw.next (q_bl hq)
      go_wp2_with fail
      go_ret2
      exact⟨_,_,_,by rw[← hv.out.2];rfl,hO1,hbw1⟩
    · obtain⟨ad,rfl,hlta,hca⟩:=(ha.bl hbw).atN (k:=k) (by omega)
      have hki:(k:Int) < (n:Int):=by omega
      have hkn:k < n:=by omega
      rw[show (((k+1:Nat):Int) - 1)=(k:Int) from by omega]
      have hcell:=hO.cell (k:=k) (by rw[ints_len,hrel.len];omega)
      rw[ix_ints] at hcell
      have hfr:=hO.frozen k
      have bx:=dx_lt (digs_dig N) k
      have hq:=div_limb hrel.small bx
      rw[Bs_eq] at bx
      have hr:=hrel.small
      have hst:=hrel.step hkn
      have hO1:=hO.set k (((r * Bs+dx (dig N) k) / d:Nat):Int)
      rw[← ints_set] at hO1
      generalize dx (dig N) k=x at *
      have e1:((((r * Bs+x) / d:Nat):Int))=((r:Int) * 1000000000+(x:Int)) / (d:Int):=by rw[Bs_eq];simp
      have e2:((((r * Bs+x) % d:Nat):Int))=((r:Int) * 1000000000+(x:Int)) % (d:Int):=by rw[Bs_eq];simp
      rw[e1] at hO1
      have e2:=Lib.hid e2;rename_i e2o;clear e2o e1 hq
      go_wp2_with fail
      go_roundw
      case rel=> exact⟨k,_,_,by omega,rfl,by rw[e2.out],hst,hO1,hbw.set (Nat.le_refl _) _⟩
      case measure=> simp[intOf]
end

end Go.Proofs.YtjaapemopbbfaaaGreat
