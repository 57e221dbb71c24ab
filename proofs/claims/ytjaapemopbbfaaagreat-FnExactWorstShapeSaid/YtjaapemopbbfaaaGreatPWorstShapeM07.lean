/- Lemmas. -/
import Derived.Test.YtjaapemopbbfaaaGreatRows
import Derived.Test.YtjaapemopbbfaaaGreatPWorstShapeM03
import Derived.Test.YtjaapemopbbfaaaGreatPWorstShapeM06
import Derived.Test.YtjaapemopbbfaaaGreatPWorstShapeM04
import Derived.Test.YtjaapemopbbfaaaGreatPWorstShapeM02
namespace Go.Proofs.YtjaapemopbbfaaaGreat
section
open Go.RowKit

/-- All limbs lie in their bounds. -/
def AllIn (l:List Int):Prop:=∀ k,k < l.length→0≤ix l k∧ix l k≤999999999
def InTo (l:List Int) (k:Nat):Prop:=∀ j,j < k→0≤ix l j∧ix l j≤999999999
theorem InTo.zero (l:List Int):InTo l 0:=fun j hj=> by omega
theorem InTo.step {l:List Int}{k:Nat}(h:InTo l k) (h0:0≤ix l k) (h1:ix l k≤999999999):InTo l (k+1):=by
  intro j hj
  rcases Nat.lt_succ_iff_lt_or_eq.1 hj with hj | rfl
  · exact h j hj
  · exact⟨h0,h1⟩

set_option maxHeartbeats 1600000 in
theorem NatOkF_any (w:World) (x:Int) :
    Calls Tryz.prog 167 #[.int .i64 x] w fun e w'=> e=.returned (.bool (!(decide (0≤x) && decide (x≤999999999))))∧∃ q,w'=w.drewN q:=by
  go_enter Tryz.func167,Tryz.ntmps167
  go_wp2_with fail
  refine(within_any _ _ _ _).mono ?_
  rintro e w1 ⟨rfl,hq⟩
  go_wp2_with fail
  go_ret
  exact⟨ret_bool (by rw[Bool.not_and]),hq⟩
/-- The index is -1 just where P holds. -/
def IdxPost (P:Prop) (w:World) (e:Ending) (w':World):Prop:=∃ i:Int,e=.returned (.int .i64 i)∧(P→i=-1)∧(¬ P→0≤i)∧∃ q,w'=w.drewN q
set_option maxHeartbeats 1600000 in
theorem IndexInt_any (w:World) {A:Option Addr}{n c:Nat}{l:List Int}(h:RdI w A n c l) :
    Calls Tryz.prog 176 #[.slice A n c,.func (.func 167) #[] #[]] w (IdxPost (AllIn l) w):=by
  have hn:=h.small
  have hl:=Lib.hid h.len
  go_enter Tryz.func176,Tryz.ntmps176
  go_wp2_with fail
  go_loopw [8] (fun i wr=> ∃ k:Nat,k≤n∧i=.int .i64 (k:Int)∧InTo l k∧∃ q,wr=w.drewN q) (fun i _=> n - (intOf i).toNat)
  case atStart=> exact⟨0,Nat.zero_le _,rfl,InTo.zero _,0,rfl⟩
  case round =>
    obtain⟨k,hk,rfl,hin,q,rfl⟩:=hrel
    by_cases hkn:k < n
    · have hki:(k:Int) < (n:Int):=by omega
      obtain⟨ad,rfl,hlt,hc⟩:=h.at_ hkn
      by_cases hx:0≤ix l k∧ix l k≤999999999
      · have hin':=hin.step hx.1 hx.2
        have hb:(!(decide (0≤ix l k) && decide (ix l k≤999999999)))=false:=by simp[hx.1,hx.2]
        clear hin hx
        go_wp2_with fail
        refine(NatOkF_any _ _).mono ?_
        rw[hb]
        clear hb
        rintro e w1 ⟨rfl,q1,rfl⟩
        go_wp2_with fail
        go_roundw
        case rel=> exact⟨k+1,by omega,by go_num,hin',(by first | exact⟨_,rfl⟩ | exact⟨0,rfl⟩ | exact q_drewN ⟨_,rfl⟩ | exact q_drewN (q_drewN ⟨_,rfl⟩))⟩
        case measure=> simp[intOf];omega
      · have hno:¬ AllIn l:=fun ha=> hx (ha k (by rw[hl.out];exact hkn))
        have hno:=Lib.hid hno;rename_i h_;clear h_
        have hb:(!(decide (0≤ix l k) && decide (ix l k≤999999999)))=true:=by
          rw[← Bool.decide_and,decide_eq_false hx];rfl
        clear hin hx
        go_wp2_with fail
        refine(NatOkF_any _ _).mono ?_
        rw[hb]
        clear hb
        rintro e w1 ⟨rfl,q1,rfl⟩
        go_wp2_with fail
        go_ret
        exact⟨_,rfl,fun ha=> absurd ha hno.out,fun _=> by omega,(by first | exact⟨_,rfl⟩ | exact⟨0,rfl⟩ | exact q_drewN ⟨_,rfl⟩ | exact q_drewN (q_drewN ⟨_,rfl⟩))⟩
    · have hall:AllIn l:=fun j hj=> hin j (by rw[hl.out] at hj;omega)
      have hall:=Lib.hid hall;rename_i h_;clear h_
      go_wp2_with fail
      go_ret
      exact⟨_,rfl,fun _=> rfl,fun hno=> absurd hall.out hno,(by first | exact⟨_,rfl⟩ | exact⟨0,rfl⟩ | exact q_drewN ⟨_,rfl⟩ | exact q_drewN (q_drewN ⟨_,rfl⟩))⟩
theorem ContainsInt_yes (w:World) {A:Option Addr}{n c:Nat}{l:List Int}(h:RdI w A n c l) (hp:AllIn l) :
    Calls Tryz.prog 166 #[.slice A n c,.func (.func 167) #[] #[]] w fun e w'=> e=.returned (.bool false)∧∃ q,w'=w.drewN q:=by
  have hp:=Lib.hid hp;rename_i h_;clear h_
  go_enter Tryz.func166,Tryz.ntmps166
  go_wp2_with fail
  refine(IndexInt_any _ h).mono ?_
  rintro e w1 ⟨i,rfl,h1,_,q,rfl⟩
  have h1:=h1 hp.out
  subst h1
  go_wp2_with fail
  go_ret
  exact⟨rfl,q,rfl⟩
theorem ContainsInt_no (w:World) {A:Option Addr}{n c:Nat}{l:List Int}(h:RdI w A n c l) (hp:¬ AllIn l) :
    Calls Tryz.prog 166 #[.slice A n c,.func (.func 167) #[] #[]] w fun e w'=> e=.returned (.bool true)∧∃ q,w'=w.drewN q:=by
  have hp:=Lib.hid hp;rename_i h_;clear h_
  go_enter Tryz.func166,Tryz.ntmps166
  go_wp2_with fail
  refine(IndexInt_any _ h).mono ?_
  rintro e w1 ⟨i,rfl,_,h1,q,rfl⟩
  have h1:=h1 hp.out
  go_wp2_with fail
  go_ret
  exact⟨rfl,q,rfl⟩

theorem okN_of {l:List Int}(h:OkN l):okN l=true:=okN_true.2 h
theorem okN_no {l:List Int}(h:¬ OkN l):okN l=false:=okN_false.2 h
set_option maxHeartbeats 1600000 in
theorem NatOk_any (w:World) {A:Option Addr}{n c:Nat}{l:List Int}(h:RdI w A n c l) :
    Calls Tryz.prog 150 #[.slice A n c] w fun e w'=> e=.returned (.bool (okN l))∧∃ q,w'=w.drewN q:=by
  have hl:=h.len
  have hsm:=h.small
  have hiff:=okN_iff l
  rw[hl] at hiff
  by_cases h60:n≤60
  · have d60:decide ((n:Int)≤60)=true:=by simp;omega
    have body:∀ (hz:n=0∨ix l (n - 1)≠0),Calls Tryz.prog 150 #[.slice A n c] w fun e w'=> e=.returned (.bool (okN l))∧∃ q,w'=w.drewN q:=by
      intro hz
      by_cases hall:AllIn l
      · have hok:=okN_of (hiff.2 ⟨h60,hz,fun k hk=> hall k (by omega)⟩)
        rw[hok]
        clear hiff hok
        rcases Nat.eq_zero_or_pos n with h0 | h0
        · subst h0
          clear hz
          go_enter Tryz.func150,Tryz.ntmps150
          go_wp2_with (go_at_call 166;refine(ContainsInt_yes _ h hall).mono ?_;rintro e w1 ⟨rfl,q,rfl⟩)
          go_ret
          exact⟨rfl,q,rfl⟩
        · have hz:=hz.resolve_left (by omega)
          have hne:((n:Int) == 0)=false:=by simp;omega
          have hnz:((ix l (n - 1)) != 0)=true:=by simpa using hz
          have hki:(n:Int) - 1=((n - 1:Nat):Int):=by omega
          obtain⟨ad,rfl,hlt,hc⟩:=h.at_ (k:=n - 1) (by omega)
          clear hz
          have hl:=Lib.hid hl;rename_i h_;clear h_
          go_enter Tryz.func150,Tryz.ntmps150
          go_wp2_with (go_at_call 166;refine(ContainsInt_yes _ h hall).mono ?_;rintro e w1 ⟨rfl,q,rfl⟩)
          go_ret
          exact⟨rfl,q,rfl⟩
      · have hok:=okN_no (fun hk=> hall fun k hkl =>(hiff.1 hk).2.2 k (by omega))
        rw[hok]
        clear hiff hok
        rcases Nat.eq_zero_or_pos n with h0 | h0
        · exact absurd (fun k hk=> by omega) hall
        · have hz:=hz.resolve_left (by omega)
          have hne:((n:Int) == 0)=false:=by simp;omega
          have hnz:((ix l (n - 1)) != 0)=true:=by simpa using hz
          have hki:(n:Int) - 1=((n - 1:Nat):Int):=by omega
          obtain⟨ad,rfl,hlt,hc⟩:=h.at_ (k:=n - 1) (by omega)
          clear hz
          have hl:=Lib.hid hl;rename_i h_;clear h_
          have hall:=Lib.hid hall;rename_i h_;clear h_
          go_enter Tryz.func150,Tryz.ntmps150
          go_wp2_with (go_at_call 166;refine(ContainsInt_no _ h hall.out).mono ?_;rintro e w1 ⟨rfl,q,rfl⟩)
          go_ret
          exact⟨rfl,q,rfl⟩
    by_cases hz:n=0∨ix l (n - 1)≠0
    · exact body hz
    · have hok:=okN_no (fun hk=> hz (hiff.1 hk).2.1)
      rw[hok]
      have hz2:ix l (n - 1)=0:=by
        by_cases e:ix l (n - 1)=0
        · exact e
        · exact absurd (.inr e) hz
      have hn0:0 < n:=by
        rcases Nat.eq_zero_or_pos n with e | e
        · exact absurd (.inl e) hz
        · exact e
      have hne:((n:Int) == 0)=false:=by simp;omega
      have hki:(n:Int) - 1=((n - 1:Nat):Int):=by omega
      obtain⟨ad,rfl,hlt,hc⟩:=h.at_ (k:=n - 1) (by omega)
      rw[hz2] at hc
      clear hiff hok hz hz2 body
      have hl:=Lib.hid hl;rename_i h_;clear h_
      go_enter Tryz.func150,Tryz.ntmps150
      go_wp2_with fail
      go_ret
      exact⟨rfl,0,rfl⟩
  · have hok:=okN_no (fun hk=> h60 (hiff.1 hk).1)
    rw[hok]
    have d60:decide ((n:Int)≤60)=false:=by simp;omega
    clear hiff hok
    have hl:=Lib.hid hl;rename_i h_;clear h_
    go_enter Tryz.func150,Tryz.ntmps150
    go_wp2_with fail
    go_ret
    exact⟨rfl,0,rfl⟩



/-- A valid integer over limbs. -/
def OkB (s:Bool) (l:List Int):Prop:=OkN l∧(s=true→0 < l.length)
open Classical in
noncomputable def okB (s:Bool) (l:List Int):Bool:=decide (OkB s l)
theorem okB_yes {s:Bool}{l:List Int}(h:OkB s l):okB s l=true:=by unfold okB;simp[h]
theorem okB_no {s:Bool}{l:List Int}(h:¬ OkB s l):okB s l=false:=by unfold okB;simp[h]
set_option maxHeartbeats 1600000 in
theorem BigIntOk_any (w:World) {s:Bool}{A:Option Addr}{n c:Nat}{l:List Int}(h:RdI w A n c l) :
    Calls Tryz.prog 149 #[.agg #[.bool s,.slice A n c]] w fun e w'=> e=.returned (.bool (okB s l))∧Bl w w':=by
  have hl:=h.len
  have hsm:=h.small
  by_cases hN:OkN l
  · have h1:=okN_of hN
    rcases s with _ | _
    · have h2:=okB_yes (s:=false) ⟨hN,fun e=> by cases e⟩
      rw[h2]
      clear h2 hN hl
      go_enter Tryz.func149,Tryz.ntmps149
      go_wp2_with (go_at_call 150;refine(NatOk_any _ (h.alloc _)).mono ?_;rw[h1];rintro e w1 ⟨rfl,q,rfl⟩)
      go_ret
      exact⟨rfl,slc⟩
    · rcases Nat.eq_zero_or_pos n with h0 | h0
      · subst h0
        have h2:=okB_no (s:=true) (l:=l) (fun hk=> by have:=hk.2 rfl;omega)
        rw[h2]
        clear h2 hN hl
        go_enter Tryz.func149,Tryz.ntmps149
        go_wp2_with (go_at_call 150;refine(NatOk_any _ (h.alloc _)).mono ?_;rw[h1];rintro e w1 ⟨rfl,q,rfl⟩)
        go_ret
        exact⟨rfl,slc⟩
      · have h2:=okB_yes (s:=true) ⟨hN,fun _=> by omega⟩
        rw[h2]
        have hi:0 < (n:Int):=by omega
        clear h2 hN hl
        go_enter Tryz.func149,Tryz.ntmps149
        go_wp2_with (go_at_call 150;refine(NatOk_any _ (h.alloc _)).mono ?_;rw[h1];rintro e w1 ⟨rfl,q,rfl⟩)
        go_ret
        exact⟨rfl,slc⟩
  · have h1:=okN_no hN
    have h2:=okB_no (s:=s) (fun hk=> hN hk.1)
    rw[h2]
    clear h2 hl
    have hN:=Lib.hid hN;rename_i h_;clear h_
    go_enter Tryz.func149,Tryz.ntmps149
    go_wp2_with (go_at_call 150;refine(NatOk_any _ (h.alloc _)).mono ?_;rw[h1];rintro e w1 ⟨rfl,q,rfl⟩)
    go_ret
    exact⟨rfl,slc⟩

/-- A fraction in memory. -/
abbrev IsR (w:World) (s:Bool) (A:Option Addr) (n c:Nat) (B:Option Addr) (m d:Nat) (x:Int) (D:Nat):Prop:=RdR w s A n c B m d (raw x D)
theorem IsR.num {w:World}{s:Bool}{A:Option Addr}{n c:Nat}{B:Option Addr}{m d:Nat}{x:Int}{D:Nat}(h:IsR w s A n c B m d x D):IsN w A n c x.natAbs:=h.mag
theorem IsR.dn {w:World}{s:Bool}{A:Option Addr}{n c:Nat}{B:Option Addr}{m d:Nat}{x:Int}{D:Nat}(h:IsR w s A n c B m d x D):IsN w B m d D:=h.den
theorem IsR.sgn {w:World}{s:Bool}{A:Option Addr}{n c:Nat}{B:Option Addr}{m d:Nat}{x:Int}{D:Nat}(h:IsR w s A n c B m d x D):s=decide (x < 0):=h.neg
theorem IsR.out {w:World}{s:Bool}{A:Option Addr}{n c:Nat}{B:Option Addr}{m d:Nat}{r:RatD}(h:RdR w s A n c B m d r) (ho:OkR r):IsR w s A n c B m d (rn r) (rd r):=by
  have:=ho.get.1
  rw[this] at h
  exact h

theorem isSmall_yes (w:World) {s:Bool}{A:Option Addr}{n c:Nat}{B:Option Addr}{m d:Nat}(hn:n≤1) (hm:m=1) :
    Calls Tryz.prog 101 #[.agg #[.bool s,.slice A n c,.slice B m d]] w fun e w'=> e=.returned (.bool true)∧Bl w w':=by
  subst hm
  have hi:decide ((n:Int)≤1)=true:=by simp;omega
  clear hn
  go_enter Tryz.func101,Tryz.ntmps101
  go_wp2_with fail
  go_ret
  exact⟨rfl,slc⟩
theorem isSmall_no (w:World) {s:Bool}{A:Option Addr}{n c:Nat}{B:Option Addr}{m d:Nat}(h:¬ (n≤1∧m=1)) :
    Calls Tryz.prog 101 #[.agg #[.bool s,.slice A n c,.slice B m d]] w fun e w'=> e=.returned (.bool false)∧Bl w w':=by
  by_cases h1:n≤1
  · have hi:decide ((n:Int)≤1)=true:=by simp;omega
    have hj:((m:Int) == 1)=false:=by simp;omega
    clear h1 h
    go_enter Tryz.func101,Tryz.ntmps101
    go_wp2_with fail
    go_ret
    exact⟨rfl,slc⟩
  · have hi:decide ((n:Int)≤1)=false:=by simp;omega
    clear h1 h
    go_enter Tryz.func101,Tryz.ntmps101
    go_wp2_with fail
    go_ret
    exact⟨rfl,slc⟩
theorem one_limb {N:Nat}(h:(dig N).length=1):dx (dig N) 0=N∧N < 1000000000∧0 < N:=dig_one h
theorem small_le {N:Nat}(h:(dig N).length≤1):N < 1000000000:=by
  have:=dig_len_le.1 h
  rw[Bs_eq] at this
  omega
set_option maxHeartbeats 1600000 in
theorem small_any (w:World) {s:Bool}{A:Option Addr}{n c:Nat}{B:Option Addr}{d:Nat}{x:Int}{D:Nat}(h:IsR w s A n c B 1 d x D) (hn:n≤1) :
    Calls Tryz.prog 102 #[.agg #[.bool s,.slice A n c,.slice B 1 d]] w fun e w'=> e=.returned (.tuple #[.int .i64 x,.int .i64 (D:Int)])∧Bl w w':=by
  obtain⟨bd,rfl,hltb,hcb⟩:=h.dn.atN (k:=0) (by omega)
  have hD:=one_limb h.dn.lenN
  rw[hD.1] at hcb
  have hcb:w.cell? bd=some (.int .i64 (D:Int)):=by rw[← hcb,Addr.add_zero']
  obtain⟨_,hD1,hD2⟩:=hD
  have hsg:=h.sgn
  rcases Nat.eq_zero_or_pos n with h0 | h0
  · subst h0
    have hx:x=0:=by
      have:=h.num.lenN
      have:=dig_nil.1 (List.length_eq_zero_iff.1 this)
      omega
    subst hx
    obtain rfl:s=false:=by rw[hsg];rfl
    clear hsg
    go_enter Tryz.func102,Tryz.ntmps102
    go_wp2_with fail
    go_quiet (fail)
    go_wp2_with fail
    go_ret2
    exact⟨rfl,slc⟩
  · obtain rfl:n=1:=by omega
    obtain⟨ad,rfl,hlt,hc⟩:=h.num.atN (k:=0) (by omega)
    have hx:=one_limb h.num.lenN
    rw[hx.1] at hc
    have hc:w.cell? ad=some (.int .i64 (x.natAbs:Int)):=by rw[← hc,Addr.add_zero']
    obtain⟨_,hx1,hx2⟩:=hx
    rcases Int.lt_or_le x 0 with hx0 | hx0
    · obtain rfl:s=true:=by rw[hsg];simp[hx0]
      have e:(x.natAbs:Int)=-x:=by omega
      rw[e] at hc
      have hb1:0≤-x:=by omega
      have hb2 : -x≤1000000000:=by omega
      have e2 : -(-x)=x:=by omega
      clear hsg e hx1 hx2
      go_enter Tryz.func102,Tryz.ntmps102
      go_wp2_with fail
      go_quiet (fail)
      go_wp2_with fail
      go_ret2
      exact⟨rfl,slc⟩
    · obtain rfl:s=false:=by rw[hsg];simp;omega
      have e:(x.natAbs:Int)=x:=by omega
      rw[e] at hc
      clear hsg e hx1 hx2
      go_enter Tryz.func102,Tryz.ntmps102
      go_wp2_with fail
      go_quiet (fail)
      go_wp2_with fail
      go_ret2
      exact⟨rfl,slc⟩

set_option maxHeartbeats 1600000 in
theorem gcd_any (w:World) (a b:Nat) (ha:a≤9223372036854775807) (hb:b≤9223372036854775807) :
    Calls Tryz.prog 103 #[.int .i64 (a:Int),.int .i64 (b:Int)] w fun e w'=> e=.returned (.int .i64 ((Nat.gcd a b:Nat):Int))∧∃ q,w'=w.drewN q:=by
  go_enter Tryz.func103,Tryz.ntmps103
  go_wp2_with fail
  go_loopw [0,1] (fun u v wr=> ∃ x y:Nat,u=.int .i64 (x:Int)∧v=.int .i64 (y:Int)∧x≤9223372036854775807∧y≤9223372036854775807∧Hid (Nat.gcd x y=Nat.gcd a b)∧∃ q,wr=w.drewN q) (fun _ v _ =>(intOf v).toNat)
  case atStart=> exact⟨a,b,rfl,rfl,ha,hb,rfl,0,rfl⟩
  case round =>
    obtain⟨x,y,rfl,rfl,hx,hy,hg,q,rfl⟩:=hrel
    rcases Nat.eq_zero_or_pos y with h0 | h0
    · subst h0
      have hfin:Hid ((x:Int)=((Nat.gcd a b:Nat):Int)):=by unfold Hid;rw[← hg.out,Nat.gcd_zero_right]
      go_wp2_with fail
      go_ret
      exact⟨ret_int hfin.out,q,rfl⟩
    · have hyi:0 < (y:Int):=by omega
      have hne:((y:Int) == 0)=false:=by simp;omega
      have hne2:(y:Int)≠0:=by omega
      have hml:=Nat.mod_lt x h0
      have hmi:=Int.emod_nonneg (x:Int) hne2
      have hg':Hid (Nat.gcd y (x % y)=Nat.gcd a b):=by unfold Hid;rw[← hg.out,Nat.gcd_comm x y,Nat.gcd_rec y x,Nat.gcd_comm]
      clear hg
      go_wp2_with fail
      go_quiet (fail)
      go_wp2_with fail
      go_roundw
      case rel=> exact⟨y,x % y,rfl,by rw[Int.natCast_emod],hy,by omega,hg',(by first | exact⟨_,rfl⟩ | exact⟨0,rfl⟩ | exact q_drewN ⟨_,rfl⟩ | exact q_drewN (q_drewN ⟨_,rfl⟩))⟩
      case measure=> simp[intOf];omega

theorem gcd_int (w:World) {u:Int}(a b:Nat) (hu:u=(a:Int)) (ha:a≤9223372036854775807) (hb:b≤9223372036854775807) :
    Calls Tryz.prog 103 #[.int .i64 u,.int .i64 (b:Int)] w fun e w'=> e=.returned (.int .i64 ((Nat.gcd a b:Nat):Int))∧∃ q,w'=w.drewN q:=by
  subst hu
  exact gcd_any w a b ha hb

set_option maxHeartbeats 1600000 in
theorem isOne_yes (w:World) {A:Option Addr}{n c:Nat}(h:IsN w A n c 1) :
    Calls Tryz.prog 151 #[.slice A n c] w fun e w'=> e=.returned (.bool true)∧∃ q,w'=w.drewN q:=by
  have hd:dig 1=[1]:=by rw[dig_pos (by omega),show 1 / Bs=0 from by rw[Bs_eq],dig_zero];rfl
  obtain rfl:n=1:=by have:=h.lenN;rw[hd] at this;exact this.symm
  obtain⟨ad,rfl,hlt,hc⟩:=h.atN (k:=0) (by omega)
  rw[hd] at hc
  have hc:w.cell? ad=some (.int .i64 1):=by rw[← Addr.add_zero' ad];exact hc
  clear hd h
  go_enter Tryz.func151,Tryz.ntmps151
  go_wp2_with fail
  go_ret
  exact⟨rfl,0,rfl⟩
set_option maxHeartbeats 1600000 in
theorem isOne_no (w:World) {A:Option Addr}{n c N:Nat}(h:IsN w A n c N) (hN:N≠1) :
    Calls Tryz.prog 151 #[.slice A n c] w fun e w'=> e=.returned (.bool false)∧∃ q,w'=w.drewN q:=by
  have hsm:=h.small
  by_cases h1:n=1
  · subst h1
    obtain⟨ad,rfl,hlt,hc⟩:=h.atN (k:=0) (by omega)
    rw[(one_limb h.lenN).1] at hc
    have hc:w.cell? ad=some (.int .i64 (N:Int)):=by rw[← hc,Addr.add_zero']
    have hne:((N:Int) == 1)=false:=by simp;omega
    clear h hN
    go_enter Tryz.func151,Tryz.ntmps151
    go_wp2_with fail
    go_ret
    exact⟨rfl,0,rfl⟩
  · have hne:((n:Int) == 1)=false:=by simp;omega
    clear h hN h1
    go_enter Tryz.func151,Tryz.ntmps151
    go_wp2_with fail
    go_ret
    exact⟨rfl,0,rfl⟩
end

section
open Go.RowKit

theorem box3 {w W:World}{a b c:Value}{T:TypeId}(h:Bl (w.alloc (.cells #[a,b,c] T)) W) :
    W.cell? ⟨w.heap.size,0,none⟩=some a∧W.cell? ⟨w.heap.size,1,none⟩=some b∧W.cell? ⟨w.heap.size,2,none⟩=some c:=by
  refine⟨?_,?_,?_⟩ <;> (rw[h.cellOf (by simp)];simp[go_sem])
/-- Block g has three cells that may be written. -/
def Wr3 (T:TypeId) (g:Nat) (W:World):Prop:=∃ cs,Blk W g T cs∧cs.size=3
theorem Wr3.bl {T:TypeId}{g:Nat}{w W:World}(h:Wr3 T g w) (hb:Bl w W):Wr3 T g W:=by
  obtain⟨cs,h1,h2⟩:=h
  exact⟨cs,h1.bl hb,h2⟩
theorem Wr3.set {T:TypeId}{g:Nat}{w:World}(h:Wr3 T g w) (i:Nat) (u:Value):Wr3 T g (w.setCell ⟨g,i,none⟩ u):=by
  obtain⟨cs,h1,h2⟩:=h
  exact⟨_,h1.set_ i u,by simp[h2]⟩
theorem Wr3.new (T:TypeId) (w:World) (a b c:Value):Wr3 T w.heap.size (w.alloc (.cells #[a,b,c] T)):=⟨_,Blk.new _ _ _,rfl⟩
theorem Wr3.new2 (T:TypeId) (w:World) (o:Obj) (a b c:Value):Wr3 T (w.heap.size+1) ((w.alloc o).alloc (.cells #[a,b,c] T)):=by
  have:=Wr3.new T (w.alloc o) a b c
  rwa [World.size_alloc] at this
theorem Wr3.drew {T:TypeId}{g:Nat}{w:World}(h:Wr3 T g w):Wr3 T g w.drew:=h
/-- What a cell holds (a plain def: a fact of it is a rule that does not run away). -/
def cellD (w:World) (g i:Nat):Value:=(w.cell? ⟨g,i,none⟩).getD undef
theorem cellD_eq {w:World}{g i:Nat}(h:∃ v,w.cell? ⟨g,i,none⟩=some v):w.cell? ⟨g,i,none⟩=some (cellD w g i):=by
  obtain⟨v,h⟩:=h
  unfold cellD
  rw[h];rfl
theorem Wr3.out {T:TypeId}{g:Nat}{w:World}(h:Wr3 T g w):(w.cell? ⟨g,0,none⟩=some (cellD w g 0)∧w.cell? ⟨g,1,none⟩=some (cellD w g 1)∧w.cell? ⟨g,2,none⟩=some (cellD w g 2))∧w.frozen? ⟨g,0,none⟩=false∧w.frozen? ⟨g,1,none⟩=false∧w.frozen? ⟨g,2,none⟩=false:=by
  obtain⟨cs,h1,h2⟩:=h
  exact⟨⟨cellD_eq (h1.some (by omega)),cellD_eq (h1.some (by omega)),cellD_eq (h1.some (by omega))⟩,h1.frozen 0,h1.frozen 1,h1.frozen 2⟩

theorem OwR.far {T:TypeId}{b0:Nat}{w:World}{s:Bool}{A:Option Addr}{n c:Nat}{B:Option Addr}{m d:Nat}{r:RatD}(h:OwR T b0 w s A n c B m d r) {p:Addr}(hp:p.block < b0) (u:Value):OwR T b0 (w.setCell p u) s A n c B m d r:=by
  obtain⟨bs,h,hf⟩:=h
  exact⟨bs,h.keep (by simp) (fun b hb=> Below.heap_setCell w p u b (by have:=(hf.2 b hb).1;omega)),hf.mono (Nat.le_refl _) (by simp)⟩
theorem OwR.two' {T:TypeId}{b0:Nat}{w w1:World}{s:Bool}{A:Option Addr}{n c:Nat}{B:Option Addr}{m d:Nat}{r:RatD}(h:OwI T b0 w1 A n c r.mag) (k:OwI T w1.heap.size w B m d r.den) (hb:Bl w1 w) (h0:b0≤w1.heap.size) (hs:s=r.neg):OwR T b0 w s A n c B m d r:=by
  obtain⟨_,_,_⟩:=r
  subst hs
  exact OwR.two h k hb h0
set_option maxRecDepth 100000 in
set_option maxHeartbeats 8000000 in
theorem copyRat_any (w:World) {s:Bool}{A:Option Addr}{n c:Nat}{B:Option Addr}{m d:Nat}{r:RatD}(h:RdR w s A n c B m d r) (hn:n≤1048576) (hm:m≤1048576) :
    Calls Tryz.prog 73 #[.agg #[.bool s,.slice A n c,.slice B m d]] w fun e w'=> ∃ A' n' c' B' m' d',e=.returned (.agg #[.bool s,.slice A' n' c',.slice B' m' d'])∧OwR 3 w.heap.size w' s A' n' c' B' m' d' r∧Bl w w':=by
  go_enter Tryz.func73,Tryz.ntmps73
  go_wp2_with fail
  go_region_held3 (fun w' =>(w'.cell? ⟨w.heap.size,0,none⟩=some (.bool s)∧w'.cell? ⟨w.heap.size,1,none⟩=some (.slice A n c)∧w'.cell? ⟨w.heap.size,2,none⟩=some (.slice B m d))∧(w'.cell? ⟨w.heap.size+1,0,none⟩=some (cellD w' (w.heap.size+1) 0)∧w'.cell? ⟨w.heap.size+1,1,none⟩=some (cellD w' (w.heap.size+1) 1)∧w'.cell? ⟨w.heap.size+1,2,none⟩=some (cellD w' (w.heap.size+1) 2))∧w'.frozen? ⟨w.heap.size+1,0,none⟩=false∧w'.frozen? ⟨w.heap.size+1,1,none⟩=false∧w'.frozen? ⟨w.heap.size+1,2,none⟩=false) (first | exact⟨box3 slc,Wr3.out (T:=31) (by repeat (first | with_reducible exact Wr3.new2 _ _ _ _ _ _ |(with_reducible refine Wr3.drew ?_) |(with_reducible refine Wr3.set ?_ _ _) |(with_reducible refine Wr3.bl ?_ ‹Bl _ _›)))⟩) (first |(go_at_call 121;with_reducible refine(Clone_any _ (h.mag.bl slc) hn).mono ?_;rintro e w3 ⟨A1,k1,c1,rfl,hO1,hb3⟩) |(go_at_call 121;with_reducible refine(Clone_any _ (h.den.bl slc) hm).mono ?_;rintro e w4 ⟨A2,k2,c2,rfl,hO2,hb4⟩))
  have hs:=h.neg
  have hb1:Bl w w4:=slc
  have hz3:=hb3.size
  have hz4:=hb4.size
  have hR:OwR 3 (w.heap.size+2) w4 s A1 k1 c1 A2 k2 c2 r:=(OwR.two' hO1 hO2 hb4 hz3 hs).mono (show w.heap.size+2≤((w.alloc (.cells #[.bool s,.slice A n c,.slice B m d] 31)).alloc (.cells #[.bool false,.slice none 0 0,.slice none 0 0] 31)).heap.size by simp)
  have hg:w.heap.size+1 < w4.heap.size:=by
    have:w.heap.size+2≤((w.alloc (.cells #[.bool s,.slice A n c,.slice B m d] 31)).alloc (.cells #[.bool false,.slice none 0 0,.slice none 0 0] 31)).heap.size:=by simp
    exact Nat.lt_of_lt_of_le (show w.heap.size+1 < w.heap.size+2 by omega) (Nat.le_trans this (Nat.le_trans hz3 hz4))
  obtain⟨cs3,hB3,hcs3⟩:Wr3 31 (w.heap.size+1) w4:=((Wr3.new2 31 w _ _ _ _).drew.bl hb3).bl hb4
  obtain⟨v0,x0⟩:=hB3.some (i:=0) (by omega)
  obtain⟨v1,x1⟩:=hB3.some (i:=1) (by omega)
  obtain⟨v2,x2⟩:=hB3.some (i:=2) (by omega)
  go_wp2_with fail
  refine bodyPost_ret (v:=.agg #[.bool s,.slice A1 k1 c1,.slice A2 k2 c2]) (by simp[results,Tryz.results73,go_sem,x0,x1,x2]) rfl ⟨_,_,_,_,_,_,rfl,(((hR.far (by simp) _).far (by simp) _).far (by simp) _).mono (by omega),slc⟩
end

section
open Go.RowKit

theorem okR_iff (r:RatD):OkR r↔OkB r.neg r.mag∧OkN r.den∧0 < r.den.length∧r.mag.length≤24∧r.den.length≤24∧Nat.gcd (nv r.mag) (nv r.den)=1:=by
  constructor
  · rintro ⟨x,D,rfl,h0,h1,h2,h3⟩
    simp only[raw,nv_ints,ints_len]
    refine⟨⟨⟨_,rfl,by omega⟩,fun e=> ?_⟩,⟨_,rfl,by omega⟩,dig_len_pos.2 h0,h2,h3,h1⟩
    rw[ints_len]
    have:x < 0:=by simpa using e
    exact dig_len_pos.2 (by omega)
  · rintro ⟨⟨h1,h2⟩,h3,h4,h5,h6,h7⟩
    have e1:=h1.nv.1
    have e3:=h3.nv.1
    have hn:(rn r).natAbs=nv r.mag:=by unfold rn;split <;> omega
    rw[e1] at h2 h5
    rw[e3] at h4 h6
    rw[ints_len] at h2 h4 h5 h6
    refine⟨rn r,rd r,?_,dig_len_pos.1 h4,by rw[hn];exact h7,by rw[hn];exact h5,h6⟩
    obtain⟨s,mag,den⟩:=r
    unfold raw
    congr 1
    · by_cases hs:s=true
      · have:=dig_len_pos.1 (h2 hs)
        subst hs
        simp[rn]
        omega
      · have:s=false:=by simpa using hs
        subst this
        simp[rn]
    · rw[hn];exact e1
theorem okR_of {r:RatD}(h:OkR r):okR r=true:=okR_true.2 h
theorem okR_no {r:RatD}(h:¬ OkR r):okR r=false:=okR_false.2 h

section
variable (w:World) {s:Bool}{A:Option Addr}{n c:Nat}{B:Option Addr}{m d:Nat}{r:RatD}
set_option maxHeartbeats 4000000 in
theorem RatOk_bad (h:RdR w s A n c B m d r) (ho:¬ OkR r) (ho':¬ (OkB s r.mag∧OkN r.den∧0 < m∧n≤24∧m≤24)) :
    Calls Tryz.prog 117 #[.agg #[.bool s,.slice A n c,.slice B m d]] w fun e w'=> e=.returned (.bool (okR r))∧Bl w w':=by
  rw[okR_no ho]
  clear ho
  by_cases h1:OkB s r.mag
  · have hB1:=okB_yes h1
    by_cases h2:OkN r.den
    · have hN1:=okN_of h2
      by_cases h3:0 < m
      · have h3i:((m:Int) == 0)=false:=by simp;omega
        by_cases h4:n≤24
        · have h4i:decide ((24:Int) < (n:Int))=false:=by simp;omega
          have h5:¬ m≤24:=fun h5=> ho' ⟨h1,h2,h3,h4,h5⟩
          have h5i:decide ((24:Int) < (m:Int))=true:=by simp;omega
          clear ho' h1 h2 h3 h4 h5
          go_enter Tryz.func117,Tryz.ntmps117
          go_wp2_with fail
          refine(BigIntOk_any _ (h.mag.alloc _)).mono ?_
          rw[hB1]
          rintro e w1 ⟨rfl,hb1⟩
          obtain⟨k0,k1,k2⟩:=box3 hb1
          have hb1:Bl w w1:=slc
          go_wp2_with fail
          refine(NatOk_any _ (h.den.bl hb1)).mono ?_
          rw[hN1]
          rintro e w2 ⟨rfl,q2,rfl⟩
          go_wp2_with fail
          go_ret
          exact⟨rfl,slc⟩

        · have h4i:decide ((24:Int) < (n:Int))=true:=by simp;omega
          clear ho' h1 h2 h3 h4
          go_enter Tryz.func117,Tryz.ntmps117
          go_wp2_with fail
          refine(BigIntOk_any _ (h.mag.alloc _)).mono ?_
          rw[hB1]
          rintro e w1 ⟨rfl,hb1⟩
          obtain⟨k0,k1,k2⟩:=box3 hb1
          have hb1:Bl w w1:=slc
          go_wp2_with fail
          refine(NatOk_any _ (h.den.bl hb1)).mono ?_
          rw[hN1]
          rintro e w2 ⟨rfl,q2,rfl⟩
          go_wp2_with fail
          go_ret
          exact⟨rfl,slc⟩

      · obtain rfl:m=0:=by omega
        clear ho' h1 h2 h3
        go_enter Tryz.func117,Tryz.ntmps117
        go_wp2_with fail
        refine(BigIntOk_any _ (h.mag.alloc _)).mono ?_
        rw[hB1]
        rintro e w1 ⟨rfl,hb1⟩
        obtain⟨k0,k1,k2⟩:=box3 hb1
        have hb1:Bl w w1:=slc
        go_wp2_with fail
        refine(NatOk_any _ (h.den.bl hb1)).mono ?_
        rw[hN1]
        rintro e w2 ⟨rfl,q2,rfl⟩
        go_wp2_with fail
        go_ret
        exact⟨rfl,slc⟩

    · have hN0:=okN_no h2
      clear ho' h1 h2
      go_enter Tryz.func117,Tryz.ntmps117
      go_wp2_with fail
      refine(BigIntOk_any _ (h.mag.alloc _)).mono ?_
      rw[hB1]
      rintro e w1 ⟨rfl,hb1⟩
      obtain⟨k0,k1,k2⟩:=box3 hb1
      have hb1:Bl w w1:=slc
      go_wp2_with fail
      refine(NatOk_any _ (h.den.bl hb1)).mono ?_
      rw[hN0]
      rintro e w2 ⟨rfl,q2,rfl⟩
      go_wp2_with fail
      go_ret
      exact⟨rfl,slc⟩

  · have hB0:=okB_no h1
    clear ho' h1
    go_enter Tryz.func117,Tryz.ntmps117
    go_wp2_with fail
    refine(BigIntOk_any _ (h.mag.alloc _)).mono ?_
    rw[hB0]
    rintro e w1 ⟨rfl,hb1⟩
    obtain⟨k0,k1,k2⟩:=box3 hb1
    have hb1:Bl w w1:=slc
    go_wp2_with fail
    go_ret
    exact⟨rfl,slc⟩


set_option maxHeartbeats 4000000 in
theorem RatOk_fine {x:Int}{D:Nat}(h:IsR w s A n c B m d x D) (hB1:okB s (raw x D).mag=true) (hN1:okN (raw x D).den=true) (h3:0 < m) (h4:n≤24) (h5:m≤24) :
    Calls Tryz.prog 117 #[.agg #[.bool s,.slice A n c,.slice B m d]] w fun e w'=> e=.returned (.bool (decide (Nat.gcd x.natAbs D=1)))∧Bl w w':=by
  have h3i:((m:Int) == 0)=false:=by simp;omega
  have h4i:decide ((24:Int) < (n:Int))=false:=by simp;omega
  have h5i:decide ((24:Int) < (m:Int))=false:=by simp;omega
  by_cases hs:n≤1∧m=1
  · obtain⟨hn1,rfl⟩:=hs
    have hx:=small_le (N:=x.natAbs) (by rw[h.num.lenN];exact hn1)
    have hD:=(one_limb h.dn.lenN).2
    have hb1 : -1000000000 < x:=by omega
    have hb2:x < 1000000000:=by omega
    clear h3 h4 h5
    go_enter Tryz.func117,Tryz.ntmps117
    go_wp2_with fail
    refine(BigIntOk_any _ (h.mag.alloc _)).mono ?_
    rw[hB1]
    rintro e w1 ⟨rfl,hb1⟩
    obtain⟨k0,k1,k2⟩:=box3 hb1
    have hb1:Bl w w1:=slc
    go_wp2_with fail
    refine(NatOk_any _ (h.den.bl hb1)).mono ?_
    rw[hN1]
    rintro e w2 ⟨rfl,q2,rfl⟩
    go_wp2_with fail
    refine(isSmall_yes _ hn1 rfl).mono ?_
    rintro e w3 ⟨rfl,hb3⟩
    obtain⟨k3,k4,k5⟩:=box3 (W:=w3) (w:=w) (a:=.bool s) (b:=.slice A n c) (c:=.slice B 1 d) (T:=31) slc
    have hb3:Bl w w3:=slc
    go_wp2_with fail
    refine(small_any _ (h.bl hb3) hn1).mono ?_
    rintro e w4 ⟨rfl,hb4⟩
    have hb4:Bl w w4:=slc
    rcases Int.lt_or_le x 0 with hx0 | hx0
    · have hmx:x < -x:=by omega
      have hu:Hid (-x=((x.natAbs:Nat):Int)):=by unfold Hid;omega
      clear hx hx0
      go_wp2_with fail
      refine(gcd_int _ x.natAbs D hu.out (by omega) (by omega)).mono ?_
      rintro e w5 ⟨rfl,q5,rfl⟩
      go_wp2_with fail
      go_ret
      exact⟨ret_bool (by rw[Bool.eq_iff_iff];simp;omega),slc⟩
    · have hmx:¬ x < -x:=by omega
      have hu:Hid (x=((x.natAbs:Nat):Int)):=by unfold Hid;omega
      clear hx
      go_wp2_with fail
      refine(gcd_int _ x.natAbs D hu.out (by omega) (by omega)).mono ?_
      rintro e w5 ⟨rfl,q5,rfl⟩
      go_wp2_with fail
      go_ret
      exact⟨ret_bool (by rw[Bool.eq_iff_iff];simp;omega),slc⟩
  · have hns:Hid (¬ (n≤1∧m=1)):=hs
    clear hs
    go_enter Tryz.func117,Tryz.ntmps117
    go_wp2_with fail
    refine(BigIntOk_any _ (h.mag.alloc _)).mono ?_
    rw[hB1]
    rintro e w1 ⟨rfl,hb1⟩
    obtain⟨k0,k1,k2⟩:=box3 hb1
    have hb1:Bl w w1:=slc
    go_wp2_with fail
    refine(NatOk_any _ (h.den.bl hb1)).mono ?_
    rw[hN1]
    rintro e w2 ⟨rfl,q2,rfl⟩
    go_wp2_with fail
    refine(isSmall_no _ hns.out).mono ?_
    rintro e w3 ⟨rfl,hb3⟩
    obtain⟨k3,k4,k5⟩:=box3 (W:=w3) (w:=w) (a:=.bool s) (b:=.slice A n c) (c:=.slice B m d) (T:=31) slc
    have hb3:Bl w w3:=slc
    go_wp2_with fail
    refine(natGcd_any _ (h.num.bl hb3) (h.dn.bl hb3) (by omega) (by omega)).mono ?_
    rintro e w4 ⟨A',n',c',rfl,hO,hb4⟩
    have hb4:Bl w w4:=slc
    by_cases hg:Nat.gcd x.natAbs D=1
    · rw[hg] at hO
      have hd:=Lib.hid (show decide (Nat.gcd x.natAbs D=1)=true by simp[hg])
      clear hg
      go_wp2_with fail
      refine(isOne_yes _ hO.rd).mono ?_
      rintro e w5 ⟨rfl,q5,rfl⟩
      go_wp2_with fail
      go_ret
      exact⟨ret_bool hd.out.symm,slc⟩
    · have hd:=Lib.hid (show decide (Nat.gcd x.natAbs D=1)=false by simp[hg])
      have hg:=Lib.hid hg;rename_i h_;clear h_
      go_wp2_with fail
      refine(isOne_no _ hO.rd hg.out).mono ?_
      rintro e w5 ⟨rfl,q5,rfl⟩
      go_wp2_with fail
      go_ret
      exact⟨ret_bool hd.out.symm,slc⟩
theorem RatOk_any (h:RdR w s A n c B m d r) :
    Calls Tryz.prog 117 #[.agg #[.bool s,.slice A n c,.slice B m d]] w fun e w'=> e=.returned (.bool (okR r))∧Bl w w':=by
  have hiff:=okR_iff r
  rw[h.mag.len,h.den.len,← h.neg] at hiff
  by_cases hg:OkB s r.mag∧OkN r.den∧0 < m∧n≤24∧m≤24
  · obtain⟨g1,g2,g3,g4,g5⟩:=hg
    have e1:=g1.1.nv.1
    have e2:=g2.nv.1
    have hn:(rn r).natAbs=nv r.mag:=by unfold rn;split <;> omega
    have hr:r=raw (rn r) (rd r):=by
      obtain⟨s',mag,den⟩:=r
      have hs:=h.neg
      simp only at hs
      subst hs
      unfold raw
      congr 1
      · by_cases hs:s=true
        · have:=g1.2 hs
          simp only at this e1
          rw[e1,ints_len] at this
          have:=dig_len_pos.1 this
          subst hs
          simp[rn]
          omega
        · have:s=false:=by simpa using hs
          subst this
          simp[rn]
      · rw[hn];exact e1
    have hI:IsR w s A n c B m d (rn r) (rd r):=by
      have h2:=h
      rw[hr] at h2
      exact h2
    refine(RatOk_fine w hI (by rw[← hr];exact okB_yes g1) (by rw[← hr];exact okN_of g2) g3 g4 g5).mono ?_
    rintro e w' ⟨rfl,hb⟩
    refine⟨?_,hb⟩
    congr 2
    by_cases hk:Nat.gcd (nv r.mag) (nv r.den)=1
    · rw[okR_of (hiff.2 ⟨g1,g2,g3,g4,g5,hk⟩),hn]
      simp[rd,hk]
    · rw[okR_no (fun ho=> hk (hiff.1 ho).2.2.2.2.2),hn]
      simp[rd,hk]
  · exact RatOk_bad w h (fun ho=> hg ⟨(hiff.1 ho).1,(hiff.1 ho).2.1,(hiff.1 ho).2.2.1,(hiff.1 ho).2.2.2.1,(hiff.1 ho).2.2.2.2.1⟩) hg
end
end

section
open Go.RowKit

/-- The three cells of a fraction. -/
def RtAt (w:World) (p:Addr) (r:RatD):Prop :=
  ∃ s A n c B m d,(w.cell? p=some (.bool s)∧w.cell? ⟨p.block,p.off+1,none⟩=some (.slice A n c)∧w.cell? ⟨p.block,p.off+2,none⟩=some (.slice B m d))∧RdR w s A n c B m d r
theorem RtAt.bl {w W:World}{p:Addr}{r:RatD}(h:RtAt w p r) (hp:p.block < w.heap.size) (hb:Bl w W):RtAt W p r:=by
  obtain⟨s,A,n,c,B,m,d,⟨h0,h1,h2⟩,hx⟩:=h
  refine⟨s,A,n,c,B,m,d,⟨?_,?_,?_⟩,hx.bl hb⟩
  · rw[hb.cellOf hp];exact h0
  · rw[hb.cellOf (p:=⟨p.block,p.off+1,none⟩) hp];exact h1
  · rw[hb.cellOf (p:=⟨p.block,p.off+2,none⟩) hp];exact h2
abbrev RdRS:=RdS 3 RtAt
theorem RdRS.bl {w W:World}{A:Option Addr}{n c:Nat}{l:List RatD}(h:RdRS w A n c l) (hb:Bl w W):RdRS W A n c l:=RdS.bl (fun h hp hb=> h.bl hp hb) h hb
section
variable {T:TypeId}{w W:World}{cs cs':Array Value}{i:Nat}{r:RatD}{bs:List Nat}
end
section
variable {T:TypeId}{w W:World}{cs:Array Value}{l:List RatD}{k:Nat}{fs:List (List Nat)}
end
end

end Go.Proofs.YtjaapemopbbfaaaGreat
