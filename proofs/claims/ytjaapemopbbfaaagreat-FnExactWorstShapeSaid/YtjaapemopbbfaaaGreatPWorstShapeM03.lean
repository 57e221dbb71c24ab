/- Lemmas. -/
import Derived.Test.YtjaapemopbbfaaaGreatPWorstShapeM01
import Derived.Test.YtjaapemopbbfaaaGreatPWorstShapeM02
import Derived.Test.YtjaapemopbbfaaaGreatRows
namespace Go.Proofs.YtjaapemopbbfaaaGreat
section
open Go.RowKit

/-- The limbs read as a natural number. -/
def nv (l:List Int):Nat:=val (l.map Int.toNat)
theorem map_toNat_ints (l:List Nat):(ints l).map Int.toNat=l:=by
  unfold ints
  rw[List.map_map]
  have:(Int.toNat ∘ Int.ofNat)=(id:Nat→Nat):=by funext x;rfl
  rw[this,List.map_id]
theorem nv_ints (N:Nat):nv (ints (dig N))=N:=by
  unfold nv;rw[map_toNat_ints,val_dig]
/-- Limbs of a natural number that is not too large. -/
def OkN (l:List Int):Prop:=∃ N,l=ints (dig N)∧(dig N).length≤60
theorem OkN.nv {l:List Int}(h:OkN l):l=ints (dig (nv l))∧l.length≤60:=by
  obtain⟨N,rfl,h⟩:=h
  rw[nv_ints]
  exact⟨rfl,by rw[ints_len];exact h⟩
theorem okN_iff (l:List Int):OkN l↔l.length≤60∧(l.length=0∨ix l (l.length - 1)≠0)∧∀ k,k < l.length→0≤ix l k∧ix l k≤999999999:=by
  constructor
  · rintro ⟨N,rfl,h⟩
    rw[ints_len]
    refine⟨h,?_,fun k hk=> ?_⟩
    · rcases Nat.eq_zero_or_pos (dig N).length with h0 | h0
      · exact .inl h0
      · right
        have:=canon_last (canon_dig N) (List.length_pos_iff.1 h0)
        unfold ix
        unfold dx at this
        unfold ints
        rw[List.getD_eq_getElem?_getD] at this
        rw[List.getD_eq_getElem?_getD,List.getElem?_map]
        rw[List.getElem?_eq_getElem (by omega)] at this ⊢
        simp at this ⊢
        omega
    · have:=dx_lt (digs_dig N) k
      rw[Bs_eq] at this
      unfold ix
      unfold dx at this
      unfold ints
      rw[List.getD_eq_getElem?_getD] at this
      rw[List.getD_eq_getElem?_getD,List.getElem?_map]
      rw[List.getElem?_eq_getElem hk] at this ⊢
      simp at this ⊢
      omega
  · rintro ⟨h1,h2,h3⟩
    have hd:Digs (l.map Int.toNat):=by
      refine digs_of_dx fun k hk=> ?_
      rw[List.length_map] at hk
      have:=h3 k hk
      unfold ix at this
      unfold dx
      rw[List.getD_eq_getElem?_getD] at this ⊢
      rw[List.getElem?_map,List.getElem?_eq_getElem hk]
      rw[List.getElem?_eq_getElem hk] at this
      simp at this ⊢
      rw[Bs_eq]
      omega
    have hc:Canon (l.map Int.toNat):=by
      refine canon_of_last hd fun e=> ?_
      have e0:l.length≠0:=by intro e0;apply e;rw[List.length_eq_zero_iff.1 e0];rfl
      rcases h2 with h2 | h2
      · exact absurd h2 e0
      · have h4:=(h3 (l.length - 1) (by omega)).1
        rw[List.length_map]
        unfold dx
        unfold ix at h2 h4
        rw[List.getD_eq_getElem?_getD] at h2 h4 ⊢
        rw[List.getElem?_map]
        rw[List.getElem?_eq_getElem (by omega)] at h2 h4 ⊢
        simp at h2 h4 ⊢
        omega
    have he:l=ints (l.map Int.toNat):=by
      unfold ints
      rw[List.map_map]
      apply List.ext_getElem (by simp)
      intro i hi _
      have:=h3 i hi
      unfold ix at this
      rw[List.getD_eq_getElem?_getD,List.getElem?_eq_getElem hi] at this
      simp at this ⊢
      omega
    refine⟨val (l.map Int.toNat),?_,?_⟩
    · rw[dig_val hc];exact he
    · rw[dig_val hc,List.length_map];exact h1

/-- The fraction (sign, magnitude, denominator) over limbs. -/
def raw (x:Int) (D:Nat):RatD:=⟨decide (x < 0),ints (dig x.natAbs),ints (dig D)⟩
/-- The zero value: what is not valid. -/
def zR:RatD:=⟨false,[],[]⟩
/-- x / D in lowest terms; the zero value if it is too large. -/
def ofFrac (x:Int) (D:Nat):RatD :=
  if (dig (x.natAbs / Nat.gcd x.natAbs D)).length≤24∧(dig (D / Nat.gcd x.natAbs D)).length≤24 then raw (x / (Nat.gcd x.natAbs D:Int)) (D / Nat.gcd x.natAbs D) else zR
def rn (r:RatD):Int:=if r.neg=true then - (nv r.mag:Int) else (nv r.mag:Int)
def rd (r:RatD):Nat:=nv r.den
theorem rn_raw (x:Int) (D:Nat):rn (raw x D)=x:=by
  unfold rn raw
  simp only[nv_ints]
  by_cases h:x < 0
  · simp[h];omega
  · simp[h];omega
theorem rd_raw (x:Int) (D:Nat):rd (raw x D)=D:=by unfold rd raw;simp only[nv_ints]
/-- A valid fraction. -/
def OkR (r:RatD):Prop:=∃ (x:Int) (D:Nat),r=raw x D∧0 < D∧Nat.gcd x.natAbs D=1∧(dig x.natAbs).length≤24∧(dig D).length≤24
theorem OkR.get {r:RatD}(h:OkR r):r=raw (rn r) (rd r)∧0 < rd r∧Nat.gcd (rn r).natAbs (rd r)=1∧(dig (rn r).natAbs).length≤24∧(dig (rd r)).length≤24:=by
  obtain⟨x,D,rfl,h⟩:=h
  rw[rn_raw,rd_raw]
  exact⟨rfl,h⟩
theorem not_ok_zR:¬ OkR zR:=by
  rintro ⟨x,D,h,hD,_⟩
  have:(dig D).length=0:=by
    have:=congrArg RatD.den h
    simp only[zR,raw] at this
    rw[← ints_len,← this];rfl
  have:=dig_len_pos.2 hD
  omega
open Classical in
/-- Whether it is valid (a plain def: the walk leaves it closed). -/
noncomputable def okR (r:RatD):Bool:=decide (OkR r)
open Classical in
noncomputable def okN (l:List Int):Bool:=decide (OkN l)
theorem okR_true {r:RatD}:okR r=true↔OkR r:=by unfold okR;simp
theorem okR_false {r:RatD}:okR r=false↔¬ OkR r:=by unfold okR;simp
theorem okN_true {r:List Int}:okN r=true↔OkN r:=by unfold okN;simp
theorem okN_false {r:List Int}:okN r=false↔¬ OkN r:=by unfold okN;simp

open Classical in
noncomputable def addR (r s:RatD):RatD:=if OkR r∧OkR s then ofFrac (rn r * rd s+rn s * rd r) (rd r * rd s) else zR
open Classical in
noncomputable def subR (r s:RatD):RatD:=if OkR r∧OkR s then ofFrac (rn r * rd s - rn s * rd r) (rd r * rd s) else zR
open Classical in
noncomputable def mulR (r s:RatD):RatD:=if OkR r∧OkR s then ofFrac (rn r * rn s) (rd r * rd s) else zR
open Classical in
noncomputable def divR (r s:RatD):RatD:=if OkR r∧OkR s∧rn s≠0 then ofFrac (rn r * rd s * (if rn s < 0 then -1 else 1)) (rd r * (rn s).natAbs) else zR
/-- -1, 0, 1. -/
def cmpZ (a b:Int):Int:=if a < b then -1 else if b < a then 1 else 0
open Classical in
noncomputable def cmpR (r s:RatD):Int:=if OkR r∧OkR s then cmpZ (rn r * rd s) (rn s * rd r) else 0
open Classical in
noncomputable def sgnR (r:RatD):Int:=if OkR r then cmpZ (rn r) 0 else 0
open Classical in
noncomputable def maxR (r s:RatD):RatD:=if OkR r∧OkR s then (if 0≤cmpR r s then r else s) else zR

theorem gcd_pos_den {n D:Nat}(h:0 < D):0 < Nat.gcd n D:=Nat.gcd_pos_of_pos_right _ h
theorem natAbs_ediv_gcd (x:Int) (g:Nat) (hg:g ∣ x.natAbs):(x / (g:Int)).natAbs=x.natAbs / g:=by
  obtain⟨k,hk⟩:=hg
  rcases Nat.eq_zero_or_pos g with h0 | h0
  · subst h0;simp
  · rw[hk,Nat.mul_div_cancel_left _ h0]
    rcases Int.natAbs_eq x with e | e
    · rw[e,hk]
      have:((g * k:Nat):Int) / (g:Int)=(k:Int):=by
        rw[Int.natCast_mul];exact Int.mul_ediv_cancel_left _ (by omega)
      rw[this];simp
    · rw[e,hk]
      have:(-((g * k:Nat):Int)) / (g:Int)=-(k:Int):=by
        rw[Int.natCast_mul,← Int.mul_neg];exact Int.mul_ediv_cancel_left _ (by omega)
      rw[this];simp
theorem ediv_neg_iff (x:Int) (g:Nat) (h0:0 < g):x / (g:Int) < 0↔x < 0:=by
  constructor
  · intro h
    rcases Int.lt_or_le x 0 with hx | hx
    · exact hx
    · have:=Int.ediv_nonneg hx (show (0:Int)≤g by omega)
      omega
  · intro h
    exact Int.ediv_neg_of_neg_of_pos h (by omega)
/-- What a computed fraction is: the zero value or a valid one. -/
theorem ofFrac_ok {x:Int}{D:Nat}(hD:0 < D):ofFrac x D=zR∨OkR (ofFrac x D):=by
  unfold ofFrac
  split
  · rename_i h
    right
    have hg:=gcd_pos_den (n:=x.natAbs) hD
    refine⟨_,_,rfl,Nat.div_pos (Nat.le_of_dvd hD (Nat.gcd_dvd_right _ _)) hg,?_,?_,h.2⟩
    · rw[natAbs_ediv_gcd _ _ (Nat.gcd_dvd_left _ _)]
      exact Nat.coprime_div_gcd_div_gcd hg
    · rw[natAbs_ediv_gcd _ _ (Nat.gcd_dvd_left _ _)]
      exact h.1
  · exact .inl rfl
end

section
open Go.RowKit

set_option maxHeartbeats 1600000 in
theorem within_any (w:World) (a lo hi:Int) :
    Calls Tryz.prog 56 #[.int .i64 a,.int .i64 lo,.int .i64 hi] w fun e w'=> e=.returned (.bool (decide (lo≤a) && decide (a≤hi)))∧∃ q,w'=w.drewN q:=by
  by_cases h1:lo≤a
  · by_cases h2:a≤hi
    · go_enter Tryz.func56,Tryz.ntmps56
      go_wp2
      go_ret
      exact⟨by simp[*],(by first | exact⟨_,rfl⟩ | exact⟨0,rfl⟩ | exact q_drewN ⟨_,rfl⟩ | exact q_drewN (q_drewN ⟨_,rfl⟩))⟩
    · go_enter Tryz.func56,Tryz.ntmps56
      go_wp2
      go_ret
      exact⟨by simp[*],(by first | exact⟨_,rfl⟩ | exact⟨0,rfl⟩ | exact q_drewN ⟨_,rfl⟩ | exact q_drewN (q_drewN ⟨_,rfl⟩))⟩
  · go_enter Tryz.func56,Tryz.ntmps56
    go_wp2
    go_ret
    exact⟨by rw[decide_eq_false (show ¬ lo≤a by omega)];rfl,(by first | exact⟨_,rfl⟩ | exact⟨0,rfl⟩ | exact q_drewN ⟨_,rfl⟩ | exact q_drewN (q_drewN ⟨_,rfl⟩))⟩

set_option maxHeartbeats 1600000 in
theorem l01In_any (w:World) (a lo hi:Int) :
    Calls Tryz.prog 36 #[.int .i64 a,.int .i64 lo,.int .i64 hi] w fun e w'=> e=.returned (.bool (decide (lo≤a) && decide (a≤hi)))∧∃ q,w'=w.drewN q:=by
  by_cases h1:lo≤a
  · by_cases h2:a≤hi
    · go_enter Tryz.func36,Tryz.ntmps36
      go_wp2
      go_ret
      exact⟨by simp[*],(by first | exact⟨_,rfl⟩ | exact⟨0,rfl⟩ | exact q_drewN ⟨_,rfl⟩ | exact q_drewN (q_drewN ⟨_,rfl⟩))⟩
    · go_enter Tryz.func36,Tryz.ntmps36
      go_wp2
      go_ret
      exact⟨by simp[*],(by first | exact⟨_,rfl⟩ | exact⟨0,rfl⟩ | exact q_drewN ⟨_,rfl⟩ | exact q_drewN (q_drewN ⟨_,rfl⟩))⟩
  · go_enter Tryz.func36,Tryz.ntmps36
    go_wp2
    go_ret
    exact⟨by rw[decide_eq_false (show ¬ lo≤a by omega)];rfl,(by first | exact⟨_,rfl⟩ | exact⟨0,rfl⟩ | exact q_drewN ⟨_,rfl⟩ | exact q_drewN (q_drewN ⟨_,rfl⟩))⟩

set_option maxHeartbeats 1600000 in
theorem corners_any (w:World) (t:TriD) :
    Calls Tryz.prog 59 #[.agg #[.int .i64 t.a,.int .i64 t.b,.int .i64 t.c,.int .i64 t.region,.int .i64 t.level]] w fun e w'=> e=.returned (.agg #[.int .i64 t.a,.int .i64 t.b,.int .i64 t.c])∧Bl w w':=by
  go_enter Tryz.func59,Tryz.ntmps59
  go_wp2
  refine bodyPost_ret (v:=.agg #[.int .i64 t.a,.int .i64 t.b,.int .i64 t.c]) (by simp[results,Tryz.results59,go_sem]) rfl ⟨rfl,slc⟩
end

section
open Go.RowKit

theorem ix_ints (l:List Nat) (k:Nat):ix (ints l) k=(dx l k:Int):=by
  unfold ix ints dx
  rw[List.getD_eq_getElem?_getD,List.getD_eq_getElem?_getD,List.getElem?_map]
  cases l[k]? <;> rfl
/-- The slice reads as the limbs of N. -/
abbrev IsN (w:World) (A:Option Addr) (n c N:Nat):Prop:=RdI w A n c (ints (dig N))
theorem RdI.atN {w:World}{A:Option Addr}{n c:Nat}{l:List Nat}(h:RdI w A n c (ints l)) {k:Nat}(hk:k < n) :
    ∃ ad,A=some ad∧ad.block < w.heap.size∧w.cell? (ad.add k)=some (.int .i64 ((dx l k:Nat):Int)):=by
  obtain⟨ad,e,hlt,hc⟩:=h.at_ hk
  exact⟨ad,e,hlt,by rw[hc,ix_ints]⟩
theorem RdI.lenN {w:World}{A:Option Addr}{n c:Nat}{l:List Nat}(h:RdI w A n c (ints l)):l.length=n:=by
  have:=h.len
  rwa [ints_len] at this
theorem RdI.cut {w:World}{A:Option Addr}{n c m:Nat}{l:List Nat}(h:RdI w A n c (ints l)) (hm:m≤n):RdI w A m c (ints (l.take m)) :=
  ⟨by rw[ints_len,List.length_take,h.lenN];omega,Nat.le_trans hm h.cap,Nat.le_trans hm h.small,fun k hk=> by
    obtain⟨ad,e,hlt,hc⟩:=h.atN (k:=k) (by omega)
    exact⟨ad,e,hlt,by rw[hc,ix_ints,dx_take hk]⟩⟩

theorem RdI.of_ow {T:TypeId}{w:World}{g n c:Nat}{l:List Int}(h:Ow T w g l) (hl:l.length=n) (hn:n≤9223372036854775807) (hc:n≤c:=by omega):RdI w (some ⟨g,0,none⟩) n c l:=by
  subst hl
  exact h.rd hn hc
/-- A block of limbs, cut behind its last limb that is not 0. -/
theorem OwI.of_ow {T:TypeId}{w:World}{b0 g n c m N:Nat}{l:List Nat}(h:Ow T w g (ints l)) (hg:b0≤g) (hl:(ints l).length=n) (hn:n≤9223372036854775807) (hm:m≤n) (ht:l.take m=dig N) (hc:n≤c:=by omega):OwI T b0 w (some ⟨g,0,none⟩) m c (ints (dig N)):=by
  have hr:=(RdI.of_ow (c:=c) h hl hn hc).cut hm
  rw[ht] at hr
  exact⟨hr,.inr ⟨g,_,rfl,hg,h,by simp;omega⟩⟩
theorem OwI.q {T:TypeId}{w w':World}{b0:Nat}{A:Option Addr}{n c:Nat}{l:List Int}(h:OwI T b0 w A n c l) (hq:∃ q,w'=w.drewN q):OwI T b0 w' A n c l:=h.bl (q_bl hq)

/-- Block g begins with the ints l, none frozen. -/
def Pre (T:TypeId) (w:World) (g:Nat) (l:List Int):Prop:=∃ r:List Value,w.heap[g]?=some (.cells (l.map (Value.int .i64) ++ r).toArray T (0,0))
section
variable {T:TypeId}{w W:World}{g:Nat}{l:List Int}
theorem Pre.lt (h:Pre T w g l):g < w.heap.size:=by
  obtain⟨r,h⟩:=h
  exact heap_lt h
theorem Pre.cell (h:Pre T w g l) {k:Nat}(hk:k < l.length):w.cell? ⟨g,k,none⟩=some (.int .i64 (ix l k)):=by
  obtain⟨r,h⟩:=h
  rw[cell_of_row w g k _ T (0,0) h]
  simp[ix,hk,List.getElem?_append]
theorem Pre.frozen (h:Pre T w g l) (k:Nat):w.frozen? ⟨g,k,none⟩=false:=by
  obtain⟨r,h⟩:=h
  simp[World.frozen?,h]
theorem Pre.set_ (h:Pre T w g l) {k:Nat}(hk:k < l.length) (x:Int):Pre T (w.setCell ⟨g,k,none⟩ (.int .i64 x)) g (l.set k x):=by
  obtain⟨r,h⟩:=h
  refine⟨r,?_⟩
  simp only[World.setCell,Array.getElem?_modify,h]
  simp[hk,List.map_set]
theorem Pre.rd (h:Pre T w g l) {n c:Nat}(hl:l.length=n) (hn:n≤9223372036854775807) (hc:n≤c):RdI w (some ⟨g,0,none⟩) n c l :=
  ⟨hl,hc,hn,fun k hk =>⟨⟨g,0,none⟩,rfl,h.lt,by
    rw[Addr.add_lit,Nat.zero_add]
    exact h.cell (by rw[hl];exact hk)⟩⟩
theorem Pre.cutN {n c m b0 N:Nat}{l:List Nat}(h:Pre T w g (ints l)) (hg:b0≤g) (hl:l.length=n) (hn:n≤9223372036854775807) (hc:n≤c) (hm:m≤n) (ht:l.take m=dig N):OwI T b0 w (some ⟨g,0,none⟩) m c (ints (dig N)):=by
  have hr:=(h.rd (c:=c) (by rw[ints_len];exact hl) hn hc).cut hm
  rw[ht] at hr
  obtain⟨r,h⟩:=h
  exact⟨hr,.inr ⟨g,_,rfl,hg,h,by simp[ints_len];omega⟩⟩
theorem OwI.pre {b0:Nat}{A:Option Addr}{n c:Nat}(h:OwI T b0 w A n c l) (h0:0 < n):∃ g,A=some ⟨g,0,none⟩∧b0≤g∧Pre T w g l:=by
  obtain⟨hr,h2⟩:=h
  rcases h2 with h2 |⟨g,cs,rfl,hg,hh,hn⟩
  · omega
  · refine⟨g,rfl,hg,cs.toList.drop n,?_⟩
    rw[hh]
    congr 2
    apply Array.toList_inj.1
    simp only[]
    apply List.ext_getElem?
    intro i
    rcases Nat.lt_or_ge i n with hi | hi
    · rw[List.getElem?_append_left (by simp[hr.len,hi])]
      obtain⟨ad,e,_,hc⟩:=hr.at_ hi
      injection e with e
      subst e
      rw[Addr.add_lit,Nat.zero_add,cell_of_row w g i cs T (0,0) hh] at hc
      rw[Array.getElem?_toList,hc]
      simp[ix,hr.len,hi]
    · rw[List.getElem?_append_right (by simp[hr.len,hi])]
      simp[hr.len,hi]
end

theorem zero_step {l:List Nat}{m:Nat}(h:∀ j,m+1≤j→dx l j=0) (h0:dx l m=0):∀ j,m≤j→dx l j=0:=by
  intro j hj
  rcases Nat.eq_or_lt_of_le hj with rfl | hlt
  · exact h0
  · exact h j hlt

set_option maxHeartbeats 1600000 in
theorem trimmed_any (w:World) {A:Option Addr}{n c:Nat}{l:List Nat}(h:RdI w A n c (ints l)) (hd:Digs l) :
    Calls Tryz.prog 165 #[.slice A n c] w fun e w'=> ∃ m,e=.returned (.slice A m c)∧m≤n∧l.take m=dig (val l)∧∃ q,w'=w.drewN q:=by
  have hn:=h.small
  have hcap:=h.cap
  have hl:=Lib.hid h.lenN
  go_enter Tryz.func165,Tryz.ntmps165
  go_wp2
  go_loop [0] (fun v=> ∃ m,v=.slice A m c∧m≤n∧∀ j,m≤j→dx l j=0) (fun v=> match v with | .slice _ m _=> m | _=> 0)
  case atStart=> exact⟨n,rfl,Nat.le_refl _,fun j hj=> dx_beyond (by rw[hl.out];exact hj)⟩
  case round =>
    obtain⟨m,rfl,hm,hz⟩:=hrel
    have hz:=Lib.hid hz;rename_i hzo;clear hzo
    rcases m with _ | m
    · have hfin:=Lib.hid (trim_dig hd (Nat.zero_le _) hz.out (.inl rfl))
      go_wp2
      go_ret
      exact⟨0,rfl,Nat.zero_le _,hfin.out,0,rfl⟩
    · obtain⟨ad,rfl,hlt,hc⟩:=h.atN (k:=m) (by omega)
      have hki:((m+1:Nat):Int) - 1=(m:Int):=by omega
      have hmc:m≤c:=by omega
      by_cases h0:dx l m=0
      · have hz':=Lib.hid (zero_step hz.out h0)
        rw[h0] at hc
        have h0':=Lib.hid h0;clear h0
        go_wp2
        go_round
        case rel=> exact⟨m,rfl,by omega,hz'.out⟩
        case measure=> simp
      · have hfin:=Lib.hid (trim_dig hd (by rw[hl.out];exact hm) hz.out (.inr h0))
        have hbeq:(((dx l m:Nat):Int) == 0)=false:=by simp;omega
        clear h0
        go_wp2
        go_ret
        exact⟨m+1,rfl,hm,hfin.out,0,rfl⟩
end

section
open Go.RowKit

theorem natOf_step {d:List Nat}{R N:Nat}(h:d ++ dig R=dig N) (h0:0 < R):(d ++ [R % Bs]) ++ dig (R / Bs)=dig N:=by
  rw[List.append_assoc,List.singleton_append,← dig_pos (by omega)];exact h

set_option maxHeartbeats 1600000 in
theorem natOf_any (w:World) (N:Nat) (hN:N < 18446744073709551616) :
    Calls Tryz.prog 162 #[.int .u64 (N:Int)] w fun e w'=> ∃ A n c,e=.returned (.slice A n c)∧OwI 3 w.heap.size w' A n c (ints (dig N))∧Bl w w':=by
  go_enter Tryz.func162,Tryz.ntmps162
  go_wp2
  go_loopw [0,3] (fun r v wr=> ∃ (R:Nat) (d:List Nat),r=.int .u64 (R:Int)∧R≤N∧d ++ dig R=dig N∧OwL 3 w.heap.size wr v (ints d)∧Bl w wr) (fun r _ _ =>(intOf r).toNat)
  case atStart=> exact⟨N,[],rfl,Nat.le_refl _,rfl,OwL.empty w (Nat.le_refl _) (by simp),(Bl.refl w).alloc _⟩
  case round =>
    obtain⟨R,d,rfl,hR,hd,hown,hbw⟩:=hrel
    have hd:=Lib.hid hd;rename_i hdo;clear hdo
    by_cases h0:0 < R
    · have hnext:=Lib.hid (natOf_step hd.out h0)
      have hlen:(ints d).length≤1099511627776:=by
        have:=congrArg List.length hd.out
        have h3:(dig N).length≤3:=dig_len_le.2 (by rw[Bs_eq];omega)
        rw[List.length_append] at this
        rw[ints_len];omega
      have hpos:(0:Int) < (R:Int):=by omega
      have hdiv:=Nat.div_lt_self h0 (show 1 < 1000000000 by omega)
      go_wp2_with (at_builtin;go_must (refine wpList_append_int (w0:=w) info_int Tryz.underlying27 rfl (.tmp 9) (.tmp 13) rfl _ (ints d) rfl hown hbw 1 rfl hlen ?_);intro v' w1 hown1 hbw1)
      go_roundw
      case rel=> exact⟨R / Bs,d ++ [R % Bs],by rw[Bs_eq];go_num,Nat.le_trans (Nat.div_le_self _ _) hR,hnext.out,by rw[ints_append,Bs_eq];exact hown1,hbw1⟩
      case measure=> simp[intOf];omega
    · obtain rfl:R=0:=by omega
      have hfin:=Lib.hid (show d=dig N by have:=hd.out;rwa [dig_zero,List.append_nil] at this)
      have hlen:(ints d).length≤9223372036854775807:=by
        have h3:(dig N).length≤3:=dig_len_le.2 (by rw[Bs_eq];omega)
        rw[ints_len,hfin.out];omega
      obtain⟨A,c,hv,ho⟩:=hown.own hlen
      have hv:=Lib.hid hv;rename_i hvo;clear hvo
      go_wp2
      go_ret
      exact⟨A,_,c,congrArg Ending.returned hv.out,by rw[← hfin.out];exact ho,hbw⟩
end

section
open Go.RowKit

theorem add_step {o:List Nat}{k cr sx sy x y:Nat}(h:val o+cr * Bs ^ k=sx+sy) (hl:o.length=k) :
    val (o ++ [(x+cr+y) % Bs])+((x+cr+y) / Bs) * Bs ^ (k+1)=(sx+x * Bs ^ k)+(sy+y * Bs ^ k):=by
  rw[val_snoc,hl,Nat.pow_succ]
  have hdm:=Nat.mod_add_div (x+cr+y) Bs
  generalize (x+cr+y) % Bs=r at *
  generalize (x+cr+y) / Bs=q at *
  have:(r+Bs * q) * Bs ^ k=(x+cr+y) * Bs ^ k:=by rw[hdm]
  grind
theorem add_end {o:List Nat}{cr N M:Nat}(h:val o+cr * Bs ^ o.length=N+M) (hd:Digs o) (hc:cr < Bs) (hl:(dig N).length=o.length):(if 0 < cr then o ++ [cr] else o)=dig (N+M):=by
  split
  · next hp =>
    rw[← h,← val_snoc]
    refine(dig_val (canon_of_last (digs_snoc hd hc) fun _=> ?_)).symm
    rw[List.length_append]
    simp[dx];omega
  · next hp =>
    obtain rfl:cr=0:=by omega
    have h':val o=N+M:=by simpa using h
    rw[← h']
    refine(dig_val (canon_of_lower hd fun e=> ?_)).symm
    have hne:dig N≠[]:=by
      intro e'
      rw[e'] at hl
      exact e (List.length_eq_zero_iff.1 hl.symm)
    have:=canon_lower (canon_dig N) hne
    rw[val_dig,hl] at this
    omega
theorem add_bound {x y cr:Nat}(hx:x < Bs) (hy:y < Bs) (hc:cr≤1):(x+cr+y) / Bs≤1:=by
  rw[Bs_eq] at *;omega

/-- What holds behind k rounds of an addition. -/
structure AddRel (N M k c:Nat) (o:List Nat):Prop where
  len:o.length=k
  digs:Digs o
  sum:val o+c * Bs ^ k=vf (dx (dig N)) k+vf (dx (dig M)) k
theorem AddRel.zero (N M:Nat):AddRel N M 0 0 []:=⟨rfl,(fun d hd=> by cases hd),by simp[val,vf]⟩
theorem AddRel.step {N M k c:Nat}{o:List Nat}(h:AddRel N M k c o):AddRel N M (k+1) ((dx (dig N) k+c+dx (dig M) k) / Bs) (o ++ [(dx (dig N) k+c+dx (dig M) k) % Bs]) :=
  ⟨by simp[h.len],digs_snoc h.digs (Nat.mod_lt _ Bs_pos),add_step h.sum h.len⟩
theorem AddRel.stop {N M k c:Nat}{o:List Nat}(h:AddRel N M k c o) (hn:(dig N).length=k) (hm:(dig M).length≤k) (hc:c < Bs):(if 0 < c then o ++ [c] else o)=dig (N+M):=by
  have hs:=h.sum
  rw[val_vf (by omega),val_vf hm,val_dig,val_dig,← h.len] at hs
  exact add_end hs h.digs hc (by rw[hn,h.len])

set_option maxHeartbeats 8000000 in
theorem natAdd_any (w:World) {A B:Option Addr}{n m c d N M:Nat}(ha:IsN w A n c N) (hb:IsN w B m d M) (hn:n≤1048576) (hm:m≤1048576) :
    Calls Tryz.prog 170 #[.slice A n c,.slice B m d] w fun e w'=> ∃ A' n' c',e=.returned (.slice A' n' c')∧OwI 3 w.heap.size w' A' n' c' (ints (dig (N+M)))∧Bl w w':=by
  by_cases hnm:m≤n
  · have hnmi:¬ (n:Int) < (m:Int):=by omega
    have hmk:=make_ints (P:=Tryz.prog) Tryz.underlying27 info_int 0 (n+1) (by omega) (by omega)
    rw[show (((n+1:Nat)):Int)=(n:Int)+1 from by omega,show ((0:Nat):Int)=0 from rfl] at hmk
    go_enter Tryz.func170,Tryz.ntmps170
    go_wp2_with fail
    clear hmk
    go_loopw [5,6,22] (fun v cr i wr=> ∃ (k c:Nat) (o:List Nat),k≤n∧i=.int .i64 (k:Int)∧c≤1∧cr=.int .i64 (c:Int)∧AddRel N M k c o∧OwL 3 w.heap.size wr v (ints o)∧Bl w wr) (fun _ _ i _=> n - (intOf i).toNat)
    case atStart=> exact⟨0,0,[],Nat.zero_le _,rfl,by omega,rfl,AddRel.zero _ _,OwL.room w (n+1) (Nat.le_refl _) (by simp only[maxLen];omega),(Bl.refl w).alloc _⟩
    case round =>
      obtain⟨k,c1,o,hk,rfl,hc1,rfl,hrel,hown,hbw⟩:=hrel
      by_cases hkn:k < n
      · obtain⟨ad,rfl,hlta,hca⟩:=(ha.bl hbw).atN hkn
        have hki:(k:Int) < (n:Int):=by omega
        have bx:=dx_lt (digs_dig N) k
        have by':=dx_lt (digs_dig M) k
        rw[Bs_eq] at bx by'
        have hlen:(ints o).length≤1099511627776:=by rw[ints_len,hrel.len];omega
        by_cases hkm:k < m
        · obtain⟨bd,rfl,hltb,hcb⟩:=(hb.bl hbw).atN hkm
          have hkj:(k:Int) < (m:Int):=by omega
          have hs:=hrel.step
          go_wp2_with (at_builtin;go_must (refine wpList_append_int (w0:=w) info_int Tryz.underlying27 rfl (.tmp 42) (.tmp 45) rfl _ (ints o) rfl hown hbw 1 rfl hlen ?_);intro v' w1 hown1 hbw1)
          go_roundw
          case rel=> exact⟨k+1,(dx (dig N) k+c1+dx (dig M) k) / Bs,o ++ [(dx (dig N) k+c1+dx (dig M) k) % Bs],by omega,by go_num,add_bound (dx_lt (digs_dig _) _) (dx_lt (digs_dig _) _) hc1,by rw[Bs_eq];go_num,hs,by rw[ints_append,Bs_eq];exact hown1,hbw1⟩
          case measure=> simp[intOf];omega
        · have hz:dx (dig M) k=0:=dx_beyond (by rw[hb.lenN];omega)
          have hkj:¬ (k:Int) < (m:Int):=by omega
          have hs:=hrel.step
          rw[hz] at hs by'
          clear hz
          go_wp2_with (at_builtin;go_must (refine wpList_append_int (w0:=w) info_int Tryz.underlying27 rfl (.tmp 42) (.tmp 45) rfl _ (ints o) rfl hown hbw 1 rfl hlen ?_);intro v' w1 hown1 hbw1)
          go_roundw
          case rel=> exact⟨k+1,(dx (dig N) k+c1) / Bs,o ++ [(dx (dig N) k+c1) % Bs],by omega,by go_num,by rw[Bs_eq];omega,by rw[Bs_eq];go_num,hs,by rw[ints_append,Bs_eq];exact hown1,hbw1⟩
          case measure=> simp[intOf];omega
      · have hend:=Lib.hid (hrel.stop (by rw[ha.lenN];omega) (by rw[hb.lenN];omega) (by rw[Bs_eq];omega))
        have hlen:(ints o).length≤1099511627776:=by rw[ints_len,hrel.len];omega
        by_cases hc0:0 < c1
        · have hci:(0:Int) < (c1:Int):=by omega
          go_wp2_with (at_builtin;go_must (refine wpList_append_int (w0:=w) info_int Tryz.underlying27 rfl (.tmp 50) (.tmp 52) rfl _ (ints o) rfl hown hbw 1 rfl hlen ?_);intro v' w1 hown1 hbw1)
          obtain⟨A',c',hv,ho⟩:=hown1.own (by simp;omega)
          have e:ints o ++ [(c1:Int)]=ints (dig (N+M)):=by
            rw[← hend.out,if_pos hc0,ints_append];rfl
          go_ret
          exact⟨A',_,c',congrArg Ending.returned hv,e ▸ ho,hbw1⟩
        · have hci:¬ (0:Int) < (c1:Int):=by omega
          have e:ints o=ints (dig (N+M)):=by
            rw[← hend.out,if_neg hc0]
          obtain⟨A',c',hv,ho⟩:=hown.own (by omega)
          have hv:=Lib.hid hv;rename_i hvo;clear hvo
          have e:=Lib.hid e;rename_i eo;clear eo
          go_wp2
          go_ret
          exact⟨A',_,c',congrArg Ending.returned hv.out,e.out ▸ ho,hbw⟩
  · have hnmi:(n:Int) < (m:Int):=by omega
    have hmk:=make_ints (P:=Tryz.prog) Tryz.underlying27 info_int 0 (m+1) (by omega) (by omega)
    rw[show (((m+1:Nat)):Int)=(m:Int)+1 from by omega,show ((0:Nat):Int)=0 from rfl] at hmk
    go_enter Tryz.func170,Tryz.ntmps170
    go_wp2_with fail
    clear hmk
    go_loopw [5,6,22] (fun v cr i wr=> ∃ (k c:Nat) (o:List Nat),k≤m∧i=.int .i64 (k:Int)∧c≤1∧cr=.int .i64 (c:Int)∧AddRel M N k c o∧OwL 3 w.heap.size wr v (ints o)∧Bl w wr) (fun _ _ i _=> m - (intOf i).toNat)
    case atStart=> exact⟨0,0,[],Nat.zero_le _,rfl,by omega,rfl,AddRel.zero _ _,OwL.room w (m+1) (Nat.le_refl _) (by simp only[maxLen];omega),(Bl.refl w).alloc _⟩
    case round =>
      obtain⟨k,c1,o,hk,rfl,hc1,rfl,hrel,hown,hbw⟩:=hrel
      by_cases hkn:k < m
      · obtain⟨ad,rfl,hlta,hca⟩:=(hb.bl hbw).atN hkn
        have hki:(k:Int) < (m:Int):=by omega
        have bx:=dx_lt (digs_dig M) k
        have by':=dx_lt (digs_dig N) k
        rw[Bs_eq] at bx by'
        have hlen:(ints o).length≤1099511627776:=by rw[ints_len,hrel.len];omega
        by_cases hkm:k < n
        · obtain⟨bd,rfl,hltb,hcb⟩:=(ha.bl hbw).atN hkm
          have hkj:(k:Int) < (n:Int):=by omega
          have hs:=hrel.step
          go_wp2_with (at_builtin;go_must (refine wpList_append_int (w0:=w) info_int Tryz.underlying27 rfl (.tmp 42) (.tmp 45) rfl _ (ints o) rfl hown hbw 1 rfl hlen ?_);intro v' w1 hown1 hbw1)
          go_roundw
          case rel=> exact⟨k+1,(dx (dig M) k+c1+dx (dig N) k) / Bs,o ++ [(dx (dig M) k+c1+dx (dig N) k) % Bs],by omega,by go_num,add_bound (dx_lt (digs_dig _) _) (dx_lt (digs_dig _) _) hc1,by rw[Bs_eq];go_num,hs,by rw[ints_append,Bs_eq];exact hown1,hbw1⟩
          case measure=> simp[intOf];omega
        · have hz:dx (dig N) k=0:=dx_beyond (by rw[ha.lenN];omega)
          have hkj:¬ (k:Int) < (n:Int):=by omega
          have hs:=hrel.step
          rw[hz] at hs by'
          clear hz
          go_wp2_with (at_builtin;go_must (refine wpList_append_int (w0:=w) info_int Tryz.underlying27 rfl (.tmp 42) (.tmp 45) rfl _ (ints o) rfl hown hbw 1 rfl hlen ?_);intro v' w1 hown1 hbw1)
          go_roundw
          case rel=> exact⟨k+1,(dx (dig M) k+c1) / Bs,o ++ [(dx (dig M) k+c1) % Bs],by omega,by go_num,by rw[Bs_eq];omega,by rw[Bs_eq];go_num,hs,by rw[ints_append,Bs_eq];exact hown1,hbw1⟩
          case measure=> simp[intOf];omega
      · have hend:=Lib.hid (hrel.stop (by rw[hb.lenN];omega) (by rw[ha.lenN];omega) (by rw[Bs_eq];omega))
        have hlen:(ints o).length≤1099511627776:=by rw[ints_len,hrel.len];omega
        by_cases hc0:0 < c1
        · have hci:(0:Int) < (c1:Int):=by omega
          go_wp2_with (at_builtin;go_must (refine wpList_append_int (w0:=w) info_int Tryz.underlying27 rfl (.tmp 50) (.tmp 52) rfl _ (ints o) rfl hown hbw 1 rfl hlen ?_);intro v' w1 hown1 hbw1)
          obtain⟨A',c',hv,ho⟩:=hown1.own (by simp;omega)
          have e:ints o ++ [(c1:Int)]=ints (dig (N+M)):=by
            rw[Nat.add_comm N M,← hend.out,if_pos hc0,ints_append];rfl
          go_ret
          exact⟨A',_,c',congrArg Ending.returned hv,e ▸ ho,hbw1⟩
        · have hci:¬ (0:Int) < (c1:Int):=by omega
          have e:ints o=ints (dig (N+M)):=by
            rw[Nat.add_comm N M,← hend.out,if_neg hc0]
          obtain⟨A',c',hv,ho⟩:=hown.own (by omega)
          have hv:=Lib.hid hv;rename_i hvo;clear hvo
          have e:=Lib.hid e;rename_i eo;clear eo
          go_wp2
          go_ret
          exact⟨A',_,c',congrArg Ending.returned hv.out,e.out ▸ ho,hbw⟩
end

section
open Go.RowKit

/-- What holds behind k rounds of the outer loop of a product. -/
structure MulRel (N M n m k:Nat) (o:List Nat):Prop where
  len:o.length=n+m
  digs:Digs o
  prod:val o=vf (dx (dig N)) k * M
  rest:∀ j,k+m≤j→dx o j=0
theorem dx_replicate (n j:Nat):dx (List.replicate n 0) j=0:=by
  unfold dx
  rw[List.getD_eq_getElem?_getD,List.getElem?_replicate]
  split <;> rfl
theorem MulRel.zero (N M n m:Nat):MulRel N M n m 0 (List.replicate (n+m) 0) :=
  ⟨by simp,digs_replicate _,by rw[val_replicate];simp[vf],fun j _=> dx_replicate _ _⟩
/-- .. behind q rounds of the inner one. -/
structure MulIn (V x M n m k q c:Nat) (o:List Nat):Prop where
  len:o.length=n+m
  digs:Digs o
  carry:c < Bs
  sum:val o+c * Bs ^ (k+q)=V+x * Bs ^ k * vf (dx (dig M)) q
  rest:∀ j,k+m≤j→dx o j=0
  lim:x < Bs
theorem MulIn.zero {N M n m k:Nat}{o:List Nat}(h:MulRel N M n m k o):MulIn (val o) (dx (dig N) k) M n m k 0 0 o :=
  ⟨h.len,h.digs,Bs_pos,by simp[vf],h.rest,dx_lt (digs_dig N) k⟩
theorem mul_carry {z x y c:Nat}(hz:z < Bs) (hx:x < Bs) (hy:y < Bs) (hc:c < Bs):(z+x * y+c) / Bs < Bs:=by
  rw[Nat.div_lt_iff_lt_mul Bs_pos]
  have:x * y≤(Bs - 1) * (Bs - 1):=Nat.mul_le_mul (by omega) (by omega)
  rw[Bs_eq] at *
  omega
theorem mul_cast_mod (z x y c:Nat):((((z+x * y+c) % Bs:Nat):Int))=((z:Int)+(x:Int) * (y:Int)+(c:Int)) % 1000000000:=by
  rw[Bs_eq,← Int.natCast_mul];omega
theorem mul_cast_div (z x y c:Nat):((((z+x * y+c) / Bs:Nat):Int))=((z:Int)+(x:Int) * (y:Int)+(c:Int)) / 1000000000:=by
  rw[Bs_eq,← Int.natCast_mul];omega
theorem MulIn.step {V x M n m k q c:Nat}{o:List Nat}(h:MulIn V x M n m k q c o) (hq:q < m) (hk:k < n) :
    MulIn V x M n m k (q+1) ((dx o (k+q)+x * dx (dig M) q+c) / Bs) (o.set (k+q) ((dx o (k+q)+x * dx (dig M) q+c) % Bs)):=by
  have hi:k+q < o.length:=by rw[h.len];omega
  refine⟨by rw[List.length_set];exact h.len,digs_set h.digs (Nat.mod_lt _ Bs_pos) _,mul_carry (dx_lt h.digs _) h.lim (dx_lt (digs_dig M) q) h.carry,?_,fun j hj=> ?_,h.lim⟩
  · have h1:=val_set hi ((dx o (k+q)+x * dx (dig M) q+c) % Bs)
    have h2:=h.sum
    have h3:=Nat.mod_add_div (dx o (k+q)+x * dx (dig M) q+c) Bs
    simp only[vf]
    rw[← Nat.add_assoc,Nat.pow_succ]
    generalize (dx o (k+q)+x * dx (dig M) q+c) % Bs=r at *
    generalize (dx o (k+q)+x * dx (dig M) q+c) / Bs=t at *
    have hp:Bs ^ (k+q)=Bs ^ k * Bs ^ q:=Nat.pow_add _ _ _
    have h4:(r+Bs * t) * Bs ^ (k+q)=(dx o (k+q)+x * dx (dig M) q+c) * Bs ^ (k+q):=by rw[h3]
    rw[hp] at *
    grind
  · rw[dx_set hi,if_neg (by omega)]
    exact h.rest j hj
theorem MulIn.stop {N M n m k c x:Nat}{o o':List Nat}(h:MulIn (val o) x M n m k m c o') (hx:vf (dx (dig N)) (k+1)=vf (dx (dig N)) k+x * Bs ^ k) (hm:(dig M).length=m) (hk:k < n) (ho:MulRel N M n m k o):MulRel N M n m (k+1) (o'.set (k+m) c):=by
  have hi:k+m < o'.length:=by rw[h.len];omega
  refine⟨by rw[List.length_set];exact h.len,digs_set h.digs h.carry _,?_,fun j hj=> ?_⟩
  · have h1:=val_set hi c
    rw[h.rest _ (Nat.le_refl _)] at h1
    have h2:=h.sum
    rw[val_vf (by omega),val_dig] at h2
    have h3:=ho.prod
    rw[hx,Nat.add_mul]
    grind
  · rw[dx_set hi,if_neg (by omega)]
    exact h.rest j (by omega)

set_option maxRecDepth 100000 in
set_option maxHeartbeats 8000000 in
theorem natMul_any (w:World) {A B:Option Addr}{n m c d N M:Nat}(ha:IsN w A n c N) (hb:IsN w B m d M) (hn:n≤1048576) (hm:m≤1048576) :
    Calls Tryz.prog 147 #[.slice A n c,.slice B m d] w fun e w'=> ∃ A' n' c',e=.returned (.slice A' n' c')∧OwI 3 w.heap.size w' A' n' c' (ints (dig (N * M)))∧Bl w w':=by
  have hmk:=make_ints (P:=Tryz.prog) Tryz.underlying27 info_int (n+m) (n+m) (Nat.le_refl _) (by omega)
  rw[show ((n+m:Nat):Int)=(n:Int)+(m:Int) from by omega] at hmk
  go_enter Tryz.func147,Tryz.ntmps147
  go_wp2_with fail
  clear hmk
  go_loopw [20] (fun i wr=> ∃ (k:Nat) (o:List Nat),k≤n∧i=.int .i64 (k:Int)∧MulRel N M n m k o∧Ow 3 wr w.heap.size (ints o)∧Bl w wr) (fun i _=> n - (intOf i).toNat)
  case atStart=> exact⟨0,List.replicate (n+m) 0,Nat.zero_le _,rfl,MulRel.zero _ _ _ _,by rw[ints_replicate];exact Ow.mk w (n+m),(Bl.refl w).alloc _⟩
  case round =>
    obtain⟨k,o,hk,rfl,hmul,hO,hbw⟩:=hrel
    obtain⟨wo,hwo⟩:∃ wo:World,wo=wr:=⟨_,rfl⟩
    subst hwo
    by_cases hkn:k < n
    · obtain⟨ad,rfl,hlta,hca⟩:=(ha.bl hbw).atN hkn
      have hki:(k:Int) < (n:Int):=by omega
      have bx:=dx_lt (digs_dig N) k
      rw[Bs_eq] at bx
      have hin:=MulIn.zero hmul
      have hmul0:=Lib.hid hmul
      have hNk:=Lib.hid (show vf (dx (dig N)) (k+1)=vf (dx (dig N)) k+dx (dig N) k * Bs ^ k from rfl)
      generalize dx (dig N) k=x at *
      go_wp2_with fail
      go_loopw [8,27] (fun cr i wr=> ∃ (q c1:Nat) (o':List Nat),q≤m∧i=.int .i64 (q:Int)∧cr=.int .i64 (c1:Int)∧MulIn (val o) x M n m k q c1 o'∧Ow 3 wr w.heap.size (ints o')∧Bl w wr) (fun _ i _=> m - (intOf i).toNat)
      case atStart=> exact⟨0,0,o,Nat.zero_le _,rfl,rfl,hin,hO,hbw⟩
      case round =>
        clear hin hO hbw hca hmul
        obtain⟨q,c1,o',hq,rfl,rfl,hin,hO,hbw⟩:=hrel
        have hc1:=hin.carry
        rw[Bs_eq] at hc1
        by_cases hqm:q < m
        · obtain⟨bd,rfl,hltb,hcb⟩:=(hb.bl hbw).atN hqm
          have hqi:(q:Int) < (m:Int):=by omega
          have hkq:((k:Int)+(q:Int)) < ((n:Int)+(m:Int)):=by omega
          have hkq':k+q < n+m:=by omega
          have by':=dx_lt (digs_dig M) q
          rw[Bs_eq] at by'
          have hcell:=hO.cell (k:=k+q) (by rw[ints_len,hin.len];omega)
          rw[ix_ints] at hcell
          have hfr:=hO.frozen (k+q)
          have bo:=dx_lt hin.digs (k+q)
          rw[Bs_eq] at bo
          have hstep:=hin.step hqm hkn
          have hO1:=hO.set (k+q) (((dx o' (k+q)+x * dx (dig M) q+c1) % Bs:Nat):Int)
          rw[← ints_set] at hO1
          generalize dx (dig M) q=y at *
          generalize dx o' (k+q)=z at *
          have hxy0:(0:Int)≤(x:Int) * (y:Int):=by exact_mod_cast Nat.zero_le (x * y)
          have hxy:(x:Int) * (y:Int)≤999999998000000001:=by
            have:x * y≤999999999 * 999999999:=Nat.mul_le_mul (by omega) (by omega)
            have h2:((x * y:Nat):Int)≤999999998000000001:=by omega
            rwa [Int.natCast_mul] at h2
          have e1:((((z+x * y+c1) % Bs:Nat):Int))=((z:Int)+(x:Int) * (y:Int)+(c1:Int)) % 1000000000:=mul_cast_mod z x y c1
          have e2:((((z+x * y+c1) / Bs:Nat):Int))=((z:Int)+(x:Int) * (y:Int)+(c1:Int)) / 1000000000:=mul_cast_div z x y c1
          rw[e1] at hO1
          have e2:=Lib.hid e2;rename_i e2o;clear e2o e1
          go_wp2_with fail
          go_roundw
          case rel=> exact⟨q+1,_,_,by omega,by go_num,by rw[e2.out],hstep,hO1,hbw.set (Nat.le_refl _) _⟩
          case measure=> simp[intOf];omega
        · obtain rfl:q=m:=by omega
          have hkm:((k:Int)+(q:Int)) < ((n:Int)+(q:Int)):=by omega
          have hkm':k+q < n+q:=by omega
          have hcell:=hO.cell (k:=k+q) (by rw[ints_len,hin.len];omega)
          rw[ix_ints,hin.rest _ (Nat.le_refl _)] at hcell
          have hfr:=hO.frozen (k+q)
          have hstop:=hin.stop hNk.out hb.lenN hkn hmul0.out
          have hO1:=hO.set (k+q) (c1:Int)
          rw[← ints_set] at hO1
          go_wp2_with fail
          go_roundw
          case rel=> exact⟨k+1,_,by omega,by go_num,hstop,hO1,hbw.set (Nat.le_refl _) _⟩
          case measure=> simp[intOf];omega
    · obtain rfl:k=n:=by omega
      have hv:=Lib.hid (show val o=N * M by rw[hmul.prod,val_vf (by rw[ha.lenN];omega),val_dig])
      have hlen:=hmul.len
      go_wp2_with fail
      refine(trimmed_any _ (l:=o) (RdI.of_ow hO (by rw[ints_len];exact hlen) (by omega)) hmul.digs).mono ?_
      rintro e w1 ⟨m',rfl,hm',ht,hq⟩
      rw[hv.out] at ht
      have hO1:=(OwI.of_ow (c:=k+m) hO (Nat.le_refl _) (by rw[ints_len];exact hlen) (by omega) hm' ht).q hq
      have hbw1:=hbw.next (q_bl hq)
      go_wp2_with fail
      go_ret
      exact⟨_,_,_,rfl,hO1,hbw1⟩
end

end Go.Proofs.YtjaapemopbbfaaaGreat
