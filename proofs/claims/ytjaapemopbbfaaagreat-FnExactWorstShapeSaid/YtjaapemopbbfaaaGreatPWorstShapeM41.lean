/- Lemmas. -/
import Derived.Test.YtjaapemopbbfaaaGreatRows
import Derived.Test.YtjaapemopbbfaaaGreatPWorstShapeM40
import Derived.Test.YtjaapemopbbfaaaGreatPWorstShapeM36
import Derived.Test.YtjaapemopbbfaaaGreatPWorstShapeM38
import Derived.Test.YtjaapemopbbfaaaGreatPWorstShapeM39
import Derived.Test.YtjaapemopbbfaaaGreatPWorstShapeM35
namespace Go.Proofs.YtjaapemopbbfaaaGreat
section
open Go.RowKit
theorem dvd_shS {s d:Nat}:s ∣ shS s d∧d ∣ shS s d:=by
  have e:shS s d=Nat.lcm s d:=by
    unfold shS Nat.lcm
    rw[Nat.div_mul_right_comm (Nat.gcd_dvd_left s d)]
  rw[e]
  exact⟨Nat.dvd_lcm_left s d,Nat.dvd_lcm_right s d⟩
theorem shTo_up {pts:List (Rat × Rat)}{j:Nat}:∀ {k:Nat},j≤k→shTo pts j ∣ shTo pts k
  | 0,h=> by
    obtain rfl:j=0:=by omega
    exact Nat.dvd_refl _
  | k+1,h=> by
    rcases(show j≤k∨j=k+1 by omega) with h | rfl
    · exact Nat.dvd_trans (shTo_up h) (Nat.dvd_trans dvd_shS.1 dvd_shS.1)
    · exact Nat.dvd_refl _
theorem shTo_ne (pts:List (Rat × Rat)):∀ k,shTo pts k≠0
  | 0=> Nat.one_ne_zero
  | k+1=> by
    have e:∀ s d:Nat,shS s d=Nat.lcm s d:=fun s d=> by
      unfold shS Nat.lcm
      rw[Nat.div_mul_right_comm (Nat.gcd_dvd_left s d)]
    unfold shTo
    rw[e,e]
    have h1:=Nat.pos_of_ne_zero (shTo_ne pts k)
    exact Nat.ne_of_gt (Nat.lcm_pos (Nat.lcm_pos h1 (Rat.den_pos _)) (Rat.den_pos _))
theorem den_shTo {pts:List (Rat × Rat)}{i k:Nat}(h:i < k):(pix pts i).1.den ∣ shTo pts k∧(pix pts i).2.den ∣ shTo pts k :=
  ⟨Nat.dvd_trans (Nat.dvd_trans dvd_shS.2 dvd_shS.1) (shTo_up (show i+1≤k from h)),Nat.dvd_trans dvd_shS.2 (shTo_up (show i+1≤k from h))⟩
theorem rat_scale (q:Rat) {S:Nat}(h:q.den ∣ S):((q.num * ((S / q.den:Nat):Int):Int):Rat)=(S:Rat) * q:=by
  obtain⟨c,rfl⟩:=h
  rw[Nat.mul_div_cancel_left _ q.den_pos]
  have h2:((q.den:Nat):Rat) * q=(q.num:Rat):=by
    have h3:q=(q.num:Rat) / (q.den:Rat):=by
      have h4:=Rat.mkRat_self q
      rw[Rat.mkRat_eq_div] at h4
      exact h4.symm
    have h5:((q.den:Nat):Rat)≠0:=by
      have:=q.den_pos
      exact_mod_cast (show q.den≠0 by omega)
    rw[Rat.mul_comm]
    conv=> lhs;arg 1;rw[h3]
    exact Rat.div_mul_cancel h5
  push_cast
  grind

theorem SmQ.bd {q:Rat}(h:SmQ q):Bd 1000000000 q:=⟨Nat.le_of_lt h.1,Nat.le_of_lt h.2⟩
def SmP (p:Rat × Rat):Prop:=SmQ p.1∧SmQ p.2
theorem SmP.ft {p:Rat × Rat}(h:SmP p):FtP p:=⟨h.1.fit,h.2.fit⟩
theorem smP_ftd {a b c:Rat × Rat}(ha:SmP a) (hb:SmP b) (hc:SmP c):FtD a b c:=by
  have h1:Bd 2000000000000000000 (b.1 - a.1):=(hb.1.bd.sub ha.1.bd).mono (by decide)
  have h2:Bd 2000000000000000000 (b.2 - a.2):=(hb.2.bd.sub ha.2.bd).mono (by decide)
  have h3:Bd 2000000000000000000 (c.1 - a.1):=(hc.1.bd.sub ha.1.bd).mono (by decide)
  have h4:Bd 2000000000000000000 (c.2 - a.2):=(hc.2.bd.sub ha.2.bd).mono (by decide)
  have m1:=h1.mul h4
  have m2:=h2.mul h3
  exact⟨⟨h1.fit (by decide),h2.fit (by decide)⟩,⟨h3.fit (by decide),h4.fit (by decide)⟩,m1.fit (by decide),m2.fit (by decide),(m1.sub m2).fit (by decide)⟩
theorem pl_scale {m:MeQ}(hn:0 < m.pts.length):∃ S:Rat,0 < S∧∀ x:Int,0≤x∧x < m.pts.length→((ix (plXs m.pts m.pts.length) x.toNat:Int):Rat)=S * (mcW m x).1∧((ix (plYs m.pts m.pts.length) x.toNat:Int):Rat)=S * (mcW m x).2:=by
  obtain⟨S,hS⟩:∃ S,shTo m.pts m.pts.length=S:=⟨_,rfl⟩
  refine⟨(S:Rat),?_,fun x hx=> ?_⟩
  · have h2:S≠0:=by
      rw[← hS]
      exact shTo_ne m.pts _
    exact_mod_cast Nat.pos_of_ne_zero h2
  · have h1:=den_shTo (pts:=m.pts) (show x.toNat < m.pts.length by omega)
    rw[ix_plXs _ (by omega),ix_plYs _ (by omega),hS]
    rw[hS] at h1
    exact⟨rat_scale _ h1.1,rat_scale _ h1.2⟩
theorem sq_mul_sign {S q:Rat}(hS:0 < S):(S * S * q < 0↔q < 0)∧(0 < S * S * q↔0 < q):=by
  have h2:0 < S * S:=Rat.mul_pos hS hS
  refine⟨⟨fun h=> ?_,fun h=> ?_⟩,⟨fun h=> ?_,fun h=> ?_⟩⟩
  · by_cases h3:q < 0
    · exact h3
    · have:=Rat.mul_nonneg (show 0≤S * S by grind) (show 0≤q by grind)
      grind
  · have:=Rat.mul_pos h2 (show 0 < -q by grind)
    grind
  · by_cases h3:0 < q
    · exact h3
    · have:=Rat.mul_nonneg (show 0≤S * S by grind) (show 0≤-q by grind)
      grind
  · exact Rat.mul_pos h2 h
theorem trn_sgW {m:MeQ}(hp:PlOk m.pts) {a b c:Int}(ha:0≤a∧a < m.pts.length) (hb:0≤b∧b < m.pts.length) (hc:0≤c∧c < m.pts.length) :
    trn (plXs m.pts m.pts.length) (plYs m.pts m.pts.length) a b c=sgW (mcW m a) (mcW m b) (mcW m c):=by
  have sA:SmP (mcW m a):=hp.1 _ (by omega)
  have sB:SmP (mcW m b):=hp.1 _ (by omega)
  have sC:SmP (mcW m c):=hp.1 _ (by omega)
  rw[sgW_yes sA.ft sB.ft sC.ft (smP_ftd sA sB sC)]
  obtain⟨S,hS,key⟩:=pl_scale (m:=m) (by omega)
  obtain⟨a1,a2⟩:=key a ha
  obtain⟨b1,b2⟩:=key b hb
  obtain⟨c1,c2⟩:=key c hc
  unfold trn cmpZ
  generalize ix (plXs m.pts m.pts.length) a.toNat=xa at *
  generalize ix (plXs m.pts m.pts.length) b.toNat=xb at *
  generalize ix (plXs m.pts m.pts.length) c.toNat=xc at *
  generalize ix (plYs m.pts m.pts.length) a.toNat=ya at *
  generalize ix (plYs m.pts m.pts.length) b.toNat=yb at *
  generalize ix (plYs m.pts m.pts.length) c.toNat=yc at *
  have e:(((xb - xa) * (yc - ya) - (yb - ya) * (xc - xa):Int):Rat)=S * S * dW (mcW m a) (mcW m b) (mcW m c):=by
    push_cast
    rw[a1,a2,b1,b2,c1,c2]
    unfold dW
    grind
  have e1:((xb - xa) * (yc - ya) - (yb - ya) * (xc - xa) < 0)↔dW (mcW m a) (mcW m b) (mcW m c) < 0:=by
    rw[← (sq_mul_sign hS).1,← e,← Rat.intCast_lt_intCast]
    rfl
  have e2:(0 < (xb - xa) * (yc - ya) - (yb - ya) * (xc - xa))↔0 < dW (mcW m a) (mcW m b) (mcW m c):=by
    rw[← (sq_mul_sign hS).2,← e,← Rat.intCast_lt_intCast]
    rfl
  simp only[e1,e2]
theorem le_scale {S p q:Rat}{x y:Int}(hS:0 < S) (hx:(x:Rat)=S * p) (hy:(y:Rat)=S * q):x≤y↔p≤q:=by
  rw[← Rat.intCast_le_intCast,hx,hy]
  constructor
  · intro h
    by_cases h3:p≤q
    · exact h3
    · have:=Rat.mul_pos hS (show 0 < p - q by grind)
      grind
  · intro h
    have:=Rat.mul_nonneg (show 0≤S by grind) (show 0≤q - p by grind)
    grind
theorem ins_insG {m:MeQ}(hp:PlOk m.pts) {a b c:Int}(ha:0≤a∧a < m.pts.length) (hb:0≤b∧b < m.pts.length) (hc:0≤c∧c < m.pts.length) :
    insI (plXs m.pts m.pts.length) (plYs m.pts m.pts.length) a b c↔insG (mcW m a) (mcW m b) (mcW m c):=by
  unfold insI insG inBx
  rw[trn_sgW hp ha hb hc]
  obtain⟨S,hS,key⟩:=pl_scale (m:=m) (by omega)
  obtain⟨a1,a2⟩:=key a ha
  obtain⟨b1,b2⟩:=key b hb
  obtain⟨c1,c2⟩:=key c hc
  generalize ix (plXs m.pts m.pts.length) a.toNat=xa at *
  generalize ix (plXs m.pts m.pts.length) b.toNat=xb at *
  generalize ix (plXs m.pts m.pts.length) c.toNat=xc at *
  generalize ix (plYs m.pts m.pts.length) a.toNat=ya at *
  generalize ix (plYs m.pts m.pts.length) b.toNat=yb at *
  generalize ix (plYs m.pts m.pts.length) c.toNat=yc at *
  rw[← le_scale hS a1 c1,← le_scale hS b1 c1,← le_scale hS c1 a1,← le_scale hS c1 b1,← le_scale hS a2 c2,← le_scale hS b2 c2,← le_scale hS c2 a2,← le_scale hS c2 b2]
  have f1:∀ x y z:Int,(min x y≤z)↔(x≤z∨y≤z):=fun x y z=> by omega
  have f2:∀ x y z:Int,(z≤max x y)↔(z≤x∨z≤y):=fun x y z=> by omega
  rw[f1,f2,f1,f2]
end

section
open Go.RowKit

noncomputable def sgI (m:MeQ) (a b c:Int):Int:=sgW (mcW m a) (mcW m b) (mcW m c)
noncomputable def inI (m:MeQ) (a b c:Int):Bool:=insB (mcW m a) (mcW m b) (mcW m c)
theorem turnC_nil {w:World}{gp n cp:Nat}{m:MeQ}(hp:RdPS w (some ⟨gp,0,none⟩) n cp (m.pts.map tp)):TurnC w (.slice (some ⟨gp,0,none⟩) n cp) (.slice none 0 0) (.slice none 0 0) n (sgI m):=by
  intro W hb a b c ha hb' hc
  have hln:m.pts.length=n:=by rw[← hp.len,List.length_map]
  obtain⟨a,rfl⟩:=Int.eq_ofNat_of_zero_le ha.1
  obtain⟨b,rfl⟩:=Int.eq_ofNat_of_zero_le hb'.1
  obtain⟨c,rfl⟩:=Int.eq_ofNat_of_zero_le hc.1
  have e:sgI m (a:Int) (b:Int) (c:Int)=sgnR (dblA (pix (m.pts.map tp) a) (pix (m.pts.map tp) b) (pix (m.pts.map tp) c)):=by
    rw[pix_map (by omega),pix_map (by omega),pix_map (by omega)]
    rfl
  rw[e]
  exact turn_nil W (RdPS.bl hp hb) a b c (by omega) (by omega) (by omega)
theorem insC_nil {w:World}{gp n cp:Nat}{m:MeQ}(hp:RdPS w (some ⟨gp,0,none⟩) n cp (m.pts.map tp)) (hft:∀ k,k < m.pts.length→FtP (pix m.pts k)):InsC w (.slice (some ⟨gp,0,none⟩) n cp) (.slice none 0 0) (.slice none 0 0) n (inI m):=by
  intro W hb a b c ha hb' hc
  obtain⟨a,rfl⟩:=Int.eq_ofNat_of_zero_le ha.1
  obtain⟨b,rfl⟩:=Int.eq_ofNat_of_zero_le hb'.1
  obtain⟨c,rfl⟩:=Int.eq_ofNat_of_zero_le hc.1
  exact isInside_nil W (RdPS.bl hp hb) hft a b c (by omega) (by omega) (by omega)
theorem turnC_pl {w:World}{gp n cp gx cx gy cy:Nat}{m:MeQ}(hn:m.pts.length=n) (hok:PlOk m.pts) (hx:RdI w (some ⟨gx,0,none⟩) n cx (plXs m.pts n)) (hy:RdI w (some ⟨gy,0,none⟩) n cy (plYs m.pts n)):TurnC w (.slice (some ⟨gp,0,none⟩) n cp) (.slice (some ⟨gx,0,none⟩) n cx) (.slice (some ⟨gy,0,none⟩) n cy) n (sgI m):=by
  subst hn
  intro W hb a b c ha hb' hc
  unfold sgI
  rw[← trn_sgW hok ha hb' hc]
  exact turn_any W (hx.bl hb) (hy.bl hb) hok.2.2 a b c ha.1 ha.2 hb'.1 hb'.2 hc.1 hc.2
theorem insC_pl {w:World}{gp n cp gx cx gy cy:Nat}{m:MeQ}(hn:m.pts.length=n) (hok:PlOk m.pts) (hx:RdI w (some ⟨gx,0,none⟩) n cx (plXs m.pts n)) (hy:RdI w (some ⟨gy,0,none⟩) n cy (plYs m.pts n)):InsC w (.slice (some ⟨gp,0,none⟩) n cp) (.slice (some ⟨gx,0,none⟩) n cx) (.slice (some ⟨gy,0,none⟩) n cy) n (inI m):=by
  subst hn
  intro W hb a b c ha hb' hc
  have e:inI m a b c=decide (insI (plXs m.pts m.pts.length) (plYs m.pts m.pts.length) a b c):=by
    rw[Bool.eq_iff_iff,decide_eq_true_iff,ins_insG hok ha hb' hc]
    exact insB_iff _ _ _
  rw[e]
  exact isInside_any W (hx.bl hb) (hy.bl hb) hok.2.2 a b c ha.1 ha.2 hb'.1 hb'.2 hc.1 hc.2
def PlcR (w:World) (gp n cp:Nat) (m:MeQ) (e:Ending) (w':World):Prop :=
  ∃ Xp nx cx Yp ny cy,e=.returned (.agg #[.slice (some ⟨gp,0,none⟩) n cp,.slice Xp nx cx,.slice Yp ny cy])∧TurnC w' (.slice (some ⟨gp,0,none⟩) n cp) (.slice Xp nx cx) (.slice Yp ny cy) n (sgI m)∧InsC w' (.slice (some ⟨gp,0,none⟩) n cp) (.slice Xp nx cx) (.slice Yp ny cy) n (inI m)∧Bl w w'
theorem place_c (w:World) {gp n cp:Nat}{m:MeQ}(hp:RdPS w (some ⟨gp,0,none⟩) n cp (m.pts.map tp)) (hft:∀ k,k < m.pts.length→FtP (pix m.pts k)) (h3:3≤n) (h40:n≤1048576) :
    Calls Tryz.prog 57 #[.slice (some ⟨gp,0,none⟩) n cp] w (PlcR w gp n cp m):=by
  have hn:m.pts.length=n:=by rw[← hp.len,List.length_map]
  refine(place_q w hp h3 h40).mono ?_
  rintro e w' (⟨hok,gx,cx,gy,cy,rfl,hx,hy,hb⟩ |⟨rfl,hb⟩)
  · exact⟨_,_,_,_,_,_,rfl,turnC_pl hn hok hx hy,insC_pl hn hok hx hy,hb⟩
  · exact⟨_,_,_,_,_,_,rfl,turnC_nil (RdPS.bl hp hb),insC_nil (RdPS.bl hp hb) hft,hb⟩
theorem sepS_ap (m:MeQ) (k j:Nat):sepS (sgI m) (pix m.tris k) (pix m.tris j)=true↔ApI m k j:=by
  unfold sepS sdS ApI apG sepG sgI kA kB kC
  simp only[Bool.or_eq_true,Bool.and_eq_true,decide_eq_true_eq]
theorem noE1_iff (m:MeQ) (a b:Int):NoE1 (inI m) a b m.pts.length↔NoI1 m a b:=by
  unfold NoE1 NoI1
  have key:∀ c:Nat,inI m a b (c:Int)=false↔¬ insG (mcW m a) (mcW m b) (pix m.pts c):=by
    intro c
    rw[← insB_iff,Bool.eq_false_iff]
    rfl
  constructor
  · intro h c h1 h2 h3
    exact(key c).1 (h c h1 h2 h3)
  · intro h c h1 h2 h3
    exact(key c).2 (h c h1 h2 h3)
theorem noE_iff (m:MeQ):NoE m.pts.length (inI m) m.tris↔∀ k,k < m.tris.length→NoI1 m (pix m.tris k).a (pix m.tris k).b∧NoI1 m (pix m.tris k).b (pix m.tris k).c∧NoI1 m (pix m.tris k).c (pix m.tris k).a:=by
  unfold NoE
  constructor
  · intro h k hk
    exact⟨(noE1_iff m _ _).1 (h k hk 0 (by omega)),(noE1_iff m _ _).1 (h k hk 1 (by omega)),(noE1_iff m _ _).1 (h k hk 2 (by omega))⟩
  · intro h k hk i hi
    obtain⟨h1,h2,h3⟩:=h k hk
    rcases(show i=0∨i=1∨i=2 by omega) with rfl | rfl | rfl
    · exact(noE1_iff m _ _).2 h1
    · exact(noE1_iff m _ _).2 h2
    · exact(noE1_iff m _ _).2 h3
/-- What the program has found of the first k triangles. -/
def TrTo (m:MeQ) (k:Nat):Prop:=∀ q,q < k→TriOkS (sgI m) m.pts.length (pix m.tris q)
def SpTo (m:MeQ) (k:Nat):Prop:=∀ q,q < k→∀ j,j < q→sepS (sgI m) (pix m.tris j) (pix m.tris q)=true∨sepS (sgI m) (pix m.tris q) (pix m.tris j)=true
def SpAt (m:MeQ) (t:TriD) (j:Nat):Prop:=∀ q,q < j→sepS (sgI m) (pix m.tris q) t=true∨sepS (sgI m) t (pix m.tris q)=true
theorem MeI.tri {m:MeQ}(h:MeI m) {k:Nat}(hk:k < m.tris.length):TriOkS (sgI m) m.pts.length (pix m.tris k):=⟨h.ixs k hk,h.reg k hk,h.pos k hk⟩
theorem MeI.spAt {m:MeQ}(h:MeI m) {k:Nat}(hk:k < m.tris.length):SpAt m (pix m.tris k) k:=fun j hj =>(h.sep k hk j hj).imp (sepS_ap m j k).2 (sepS_ap m k j).2
theorem MeI.usd {m:MeQ}(h:MeI m):∀ i,i < m.pts.length→usedTo m.tris m.tris.length i=true:=fun i hi=> by
  obtain⟨j,hj,e⟩:=h.used i hi
  exact usedTo_of hj e
theorem MeI.noE {m:MeQ}(h:MeI m):NoE m.pts.length (inI m) m.tris:=(noE_iff m).2 h.noIn
theorem meI_of {m:MeQ}(n3:3≤m.pts.length) (n40:m.pts.length≤40) (t1:1≤m.tris.length) (t48:m.tris.length≤48) (fit:∀ k,k < m.pts.length→FtP (pix m.pts k)) (diff:∀ k,k < m.pts.length→∀ j,j < k→pix m.pts k≠pix m.pts j)
    (ht:TrTo m m.tris.length) (hs:SpTo m m.tris.length) (hu:∀ i,i < m.pts.length→usedTo m.tris m.tris.length i=true) (hn:NoE m.pts.length (inI m) m.tris):MeI m :=
  ⟨⟨n3,n40,t1,t48,fit,diff,fun k hk =>(ht k hk).1,fun k hk =>(ht k hk).2.1,fun k hk =>(ht k hk).2.2,fun k hk=> of_usedTo (hu k hk)⟩,fun k hk j hj =>(hs k hk j hj).imp (sepS_ap m j k).1 (sepS_ap m k j).1,(noE_iff m).1 hn⟩
theorem TrTo.step {m:MeQ}{k:Nat}{t:TriD}(h:TrTo m k) (ht:pix m.tris k=t) (hi:TriOkS (sgI m) m.pts.length t):TrTo m (k+1):=by
  subst ht
  intro q hq
  rcases(show q < k∨q=k by omega) with h1 | rfl
  · exact h q h1
  · exact hi
theorem SpTo.step {m:MeQ}{k:Nat}{t:TriD}(h:SpTo m k) (ht:pix m.tris k=t) (hi:SpAt m t k):SpTo m (k+1):=by
  subst ht
  intro q hq j hj
  rcases(show q < k∨q=k by omega) with h1 | rfl
  · exact h q h1 j hj
  · exact hi j hj
theorem SpAt.step {m:MeQ}{j:Nat}{t s:TriD}(h:SpAt m t j) (hs:pix m.tris j=s) (hi:sepS (sgI m) s t=true∨sepS (sgI m) t s=true):SpAt m t (j+1):=by
  subst hs
  intro q hq
  rcases(show q < j∨q=j by omega) with h1 | rfl
  · exact h q h1
  · exact hi
theorem SpAt.get {m:MeQ}{k j:Nat}{t s:TriD}(h:SpAt m t k) (hj:j < k) (hs:pix m.tris j=s):sepS (sgI m) s t=true∨sepS (sgI m) t s=true:=by
  subst hs
  exact h j hj
end

section
open Go.RowKit

def IdxResB (n:Nat) (w:World) (e:Ending) (w':World):Prop:=∃ r:Nat,e=.returned (.int .i64 (r:Int))∧r < n∧Bl w w'
set_option maxRecDepth 100000 in
set_option maxHeartbeats 4000000 in
theorem IndexEq_yes (w:World) {s1:Bool}{A1:Option Addr}{n1 c1:Nat}{B1:Option Addr}{m1 d1:Nat}{t1:Bool}{C1:Option Addr}{i1 e1:Nat}{D1:Option Addr}{j1 f1:Nat}{q:PtD}{gb:Nat}(qb:Blk w gb 76 #[.bool s1,.slice A1 n1 c1,.slice B1 m1 d1,.bool t1,.slice C1 i1 e1,.slice D1 j1 f1]) (hx1:RdR w s1 A1 n1 c1 B1 m1 d1 q.x) (hy1:RdR w t1 C1 i1 e1 D1 j1 f1 q.y) {g9 n9 c9:Nat}{l:List PtD}(hl9:RdPS w (some ⟨g9,0,none⟩) n9 c9 l) (hno:¬ NoEq q l) :
    Calls Tryz.prog 136 #[.slice (some ⟨g9,0,none⟩) n9 c9,.func (.func 99) #[] #[.pointer (some ⟨gb,0,none⟩)]] w (IdxResB n9 w):=by
  have hn:=hl9.small
  have hl:=Lib.hid hl9.len
  have hno:=Lib.hid hno;rename_i h_;clear h_
  go_enter Tryz.func136,Tryz.ntmps136
  go_wp2_with fail
  go_loopw [8] (fun i wr=> ∃ k:Nat,k≤n9∧i=.int .i64 (k:Int)∧Hid (∀ j,j < k→eqP q (pix l j)=false)∧Bl w wr) (fun i _=> n9 - (intOf i).toNat)
  case atStart=> exact⟨0,Nat.zero_le _,rfl,Lib.hid (fun j hj=> by omega),Bl.refl _⟩
  case round =>
    obtain⟨k9,hk,rfl,hpre,hbw⟩:=hrel
    by_cases hkn:k9 < n9
    · have hki:(k9:Int) < (n9:Int):=by omega
      obtain⟨s2,A2,n2,c2,B2,m2,d2,t2,C2,i2,e2,D2,j2,f2,⟨y0,y1,y2,y3,y4,y5⟩,hx,hy⟩:=pts_lit (RdPS.bl hl9 hbw) hkn
      obtain⟨b,ho⟩:∃ b,eqP q (pix l k9)=b:=⟨_,rfl⟩
      have ho:=Lib.hid ho;rename_i h_;clear h_
      go_wp2_with fail
      refine(arePointsF_any _ (qb.bl hbw) (hx1.bl hbw) (hy1.bl hbw) hx hy).mono ?_
      rw[ho.out]
      rintro e w1 ⟨rfl,hb1⟩
      have hb2:Bl w w1:=slc
      clear hb1
      cases b
      · go_wp2_with fail
        go_roundw
        case rel=> exact⟨k9+1,by omega,by go_num,Lib.hid (fun j hj=> by
          rcases(show j < k9∨j=k9 by omega) with h1 | rfl
          · exact hpre.out j h1
          · exact ho.out),hb2⟩
        case measure=> simp[intOf];omega
      · go_wp2_with fail
        go_ret
        exact⟨k9,rfl,hkn,hb2⟩
    · obtain rfl:k9=n9:=by omega
      exact absurd (fun j hj=> hpre.out j (by rw[← hl.out];exact hj)) hno.out
theorem ContainsEq_q (w:World) {s1:Bool}{A1:Option Addr}{n1 c1:Nat}{B1:Option Addr}{m1 d1:Nat}{t1:Bool}{C1:Option Addr}{i1 e1:Nat}{D1:Option Addr}{j1 f1:Nat}{q:PtD}{gb:Nat}(qb:Blk w gb 76 #[.bool s1,.slice A1 n1 c1,.slice B1 m1 d1,.bool t1,.slice C1 i1 e1,.slice D1 j1 f1]) (hx1:RdR w s1 A1 n1 c1 B1 m1 d1 q.x) (hy1:RdR w t1 C1 i1 e1 D1 j1 f1 q.y) {g9 n9 c9:Nat}{l:List PtD}(hl9:RdPS w (some ⟨g9,0,none⟩) n9 c9 l) :
    Calls Tryz.prog 98 #[.slice (some ⟨g9,0,none⟩) n9 c9,.func (.func 99) #[] #[.pointer (some ⟨gb,0,none⟩)]] w fun e w'=> BRes (NoEq q l) w e w':=by
  by_cases hno:NoEq q l
  · refine(ContainsEq_no _ qb hx1 hy1 hl9 hno).mono ?_
    rintro e w1 ⟨rfl,hb⟩
    exact bres_false hno hb
  · have hno:=Lib.hid hno;rename_i h_;clear h_
    go_enter Tryz.func98,Tryz.ntmps98
    go_wp2_with fail
    refine(IndexEq_yes _ qb hx1 hy1 hl9 hno.out).mono ?_
    rintro e w1 ⟨r,rfl,hr,hb⟩
    have hr0:(0:Int)≤(r:Int):=by omega
    go_wp2_with fail
    go_ret
    exact bres_true hno.out hb
def PtsTo (l:List PtD) (k:Nat):Prop:=∀ i,i < k→OkP (pix l i)∧∀ j,j < i→eqP (pix l i) (pix l j)=false
theorem noEq_take {l:List PtD}{k:Nat}(h:k < l.length):NoEq (pix l k) (l.take k)↔∀ j,j < k→eqP (pix l k) (pix l j)=false:=by
  have e:∀ j,j < k→pix (l.take k) j=pix l j:=fun j hj=> by unfold pix;rw[List.getD_eq_getElem?_getD,List.getD_eq_getElem?_getD,List.getElem?_take_of_lt hj]
  have hl:(l.take k).length=k:=by rw[List.length_take];omega
  constructor
  · intro hn j hj
    have:=hn j (by omega)
    rw[e j hj] at this
    exact this
  · intro hn j hj
    rw[hl] at hj
    rw[e j hj]
    exact hn j hj
set_option maxRecDepth 100000 in
set_option maxHeartbeats 16000000 in
theorem arePoints_q (w:World) {g9 n9 c9:Nat}{l:List PtD}(hl9:RdPS w (some ⟨g9,0,none⟩) n9 c9 l) :
    Calls Tryz.prog 55 #[.slice (some ⟨g9,0,none⟩) n9 c9] w fun e w'=> YRes (PtsOk l∧3≤n9∧n9≤40) w e w':=by
  have hsm:=hl9.small
  have hl:=Lib.hid hl9.len
  have hcap:=hl9.cap
  go_enter Tryz.func55,Tryz.ntmps55
  go_wp2_with fail
  go_loopw [7] (fun i wr=> ∃ k:Nat,k≤n9∧i=.int .i64 (k:Int)∧Hid (PtsTo l k)∧Bl w wr) (fun i _=> n9 - (intOf i).toNat)
  case atStart=> exact⟨0,Nat.zero_le _,rfl,Lib.hid (fun i hi=> by omega),Bl.refl _⟩
  case round =>
    obtain⟨k,hk,rfl,hpre,hbw⟩:=hrel
    obtain⟨wo,rfl⟩:∃ wo:World,wo=wr:=⟨_,rfl⟩
    by_cases hkn:k < n9
    · have hki:(k:Int) < (n9:Int):=by omega
      obtain⟨s1,A1,n1,c1,B1,m1,d1,t1,C1,i1,e1,D1,j1,f1,⟨y0,y1,y2,y3,y4,y5⟩,hx1,hy1⟩:=pts_lit (RdPS.bl hl9 hbw) hkn
      have hat:=Lib.hid (fun (h:PtsOk l∧3≤n9∧n9≤40)=> h.1 k (by rw[hl.out];exact hkn))
      have hne:=Lib.hid (noEq_take (l:=l) (k:=k) (by rw[hl.out];exact hkn))
      have hst:=Lib.hid (fun (h1:OkP (pix l k)) (h2:NoEq (pix l k) (l.take k)) =>(fun i hi=> by
        rcases(show i < k∨i=k by omega) with h3 | rfl
        · exact hpre.out i h3
        · exact⟨h1,hne.out.1 h2⟩:PtsTo l (k+1)))
      by_cases hop:OkP (pix l k)
      · have hop:=Lib.hid hop;rename_i h_;clear h_
        go_wp2_with fail
        refine calls_gen (fun W2=> Bl wo W2∧Blk W2 wo.heap.size 76 #[.bool s1,.slice A1 n1 c1,.slice B1 m1 d1,.bool t1,.slice C1 i1 e1,.slice D1 j1 f1]) ⟨slc,bts⟩ ?_
        rintro W2 ⟨hb2,qb⟩
        clear y0 y1 y2 y3 y4 y5
        refine(IsValidPoint_yes _ (hx1.bl hb2) (hy1.bl hb2) hop.out).mono ?_
        rintro e w3 ⟨rfl,hb3⟩
        have qb:=qb.bl hb3
        have hb4:=hb2.next hb3
        obtain⟨j0,j1,j2,j3,j4,j5⟩:=bx6 qb
        go_wp2_with fail
        refine(ContainsEq_q _ (by exact qb) (hx1.bl hb4) (hy1.bl hb4) (pts_take (RdPS.bl hl9 (hbw.next hb4)) (by omega))).mono ?_
        rintro e w5 ⟨b,rfl,hbq,hb5⟩
        have hbq:=Lib.hid hbq;rename_i h_;clear h_
        cases b
        · have hnq:=Lib.hid (hst.out hop.out (hbq.out.1 rfl))
          clear hbq
          go_wp2_with fail
          go_roundw
          case rel=> exact⟨k+1,by omega,by go_num,hnq,(hbw.next hb4).next hb5⟩
          case measure=> simp[intOf];omega
        · have hnq:=Lib.hid (show ¬ (PtsOk l∧3≤n9∧n9≤40) from fun h=> Bool.noConfusion (hbq.out.2 (hne.out.2 (hat.out h).2)))
          clear hbq
          go_wp2_with fail
          go_ret
          exact yres_false hnq.out ((hbw.next hb4).next hb5)
      · have hop:=Lib.hid hop;rename_i h_;clear h_
        go_wp2_with fail
        refine calls_gen (fun W2=> Bl wo W2) slc ?_
        intro W2 hb2
        clear y0 y1 y2 y3 y4 y5
        refine(IsValidPoint_no _ (hx1.bl hb2) (hy1.bl hb2) hop.out).mono ?_
        rintro e w3 ⟨rfl,hb3⟩
        go_wp2_with fail
        go_ret
        exact yres_false (fun h=> hop.out (hat.out h).1) ((hbw.next hb2).next hb3)
    · obtain rfl:k=n9:=by omega
      have hkm2:¬ (k:Int) < (k:Int):=by omega
      have hpo:=Lib.hid (show PtsOk l from fun i hi=> hpre.out i (by rw[← hl.out];exact hi))
      by_cases hr:3≤(k:Int)∧(k:Int)≤40
      · have hr:=Lib.hid hr;rename_i h_;clear h_
        go_wp2_with fail
        refine(within_yes _ hr.out.1 hr.out.2).mono ?_
        rintro e w1 ⟨rfl,q1,rfl⟩
        go_wp2_with fail
        go_ret
        exact yres_true ⟨hpo.out,by have:=hr.out.1;omega,by have:=hr.out.2;omega⟩ (by exact slc)
      · have hr:=Lib.hid hr;rename_i h_;clear h_
        go_wp2_with fail
        refine(within_no _ hr.out).mono ?_
        rintro e w1 ⟨rfl,q1,rfl⟩
        go_wp2_with fail
        go_ret
        exact yres_false (fun h=> hr.out ⟨by have:=h.2.1;omega,by have:=h.2.2;omega⟩) (by exact slc)
end

section
open Go.RowKit

theorem ptsOk_ft {l:List (Rat × Rat)}(h:PtsOk (l.map tp)):∀ k,k < l.length→FtP (pix l k):=by
  intro k hk
  have h1:=(h k (by rw[List.length_map];exact hk)).1
  rw[pix_map hk] at h1
  obtain⟨p,hp,hf⟩:=okP_tp h1
  rw[tp_inj hp]
  exact hf
theorem ptsOk_diff {l:List (Rat × Rat)}(h:PtsOk (l.map tp)):∀ k,k < l.length→∀ j,j < k→pix l k≠pix l j:=by
  intro k hk j hj e
  have h1:=(h k (by rw[List.length_map];exact hk)).2 j hj
  rw[pix_map hk,pix_map (by omega),e] at h1
  unfold eqP at h1
  rw[Bool.and_eq_false_iff] at h1
  rcases h1 with h1 | h1
  · rw[eqR_iff.2 rfl] at h1;cases h1
  · rw[eqR_iff.2 rfl] at h1;cases h1
theorem ptsOk_map:∀ {l:List PtD},PtsOk l→∃ q:List (Rat × Rat),l=q.map tp
  | l,h=> by
    have key:∀ (l:List PtD),(∀ P ∈ l,OkP P)→∃ q:List (Rat × Rat),l=q.map tp:=by
      intro l
      induction l with
      | nil=> exact fun _ =>⟨[],rfl⟩
      | cons P l ih =>
        intro hP
        obtain⟨p,e,_⟩:=okP_tp (hP P (by simp))
        obtain⟨q,e2⟩:=ih (fun Q hQ=> hP Q (by simp[hQ]))
        exact⟨p :: q,by rw[List.map_cons,e,e2]⟩
    refine key l fun P hP=> ?_
    obtain⟨i,hi,e⟩:=List.getElem_of_mem hP
    have:=(h i hi).1
    rw[show pix l i=P by unfold pix;simp[hi,e]] at this
    exact this
set_option maxRecDepth 100000 in
set_option maxHeartbeats 32000000 in
theorem IsMesh_m (w:World) {gp n cp gt m ct:Nat}{mq:MeQ}(hp:RdPS w (some ⟨gp,0,none⟩) n cp (mq.pts.map tp)) (ht:RdTS w (some ⟨gt,0,none⟩) m ct mq.tris) (hpo0:PtsOk (mq.pts.map tp)) (n3:3≤n) (n40:n≤40) (t1:1≤m) (t48:m≤48) :
    Calls Tryz.prog 21 #[.agg #[.slice (some ⟨gp,0,none⟩) n cp,.slice (some ⟨gt,0,none⟩) m ct]] w fun e w'=> YRes (MeI mq) w e w':=by
  have hn:mq.pts.length=n:=by rw[← hp.len,List.length_map]
  have hm:mq.tris.length=m:=ht.len
  have hft:=ptsOk_ft hpo0
  have hdf:=ptsOk_diff hpo0
  have hfin := Lib.hid (fun (h1 : TrTo mq m) (h2 : SpTo mq m) (hu : ∀ i, i < n → usedTo mq.tris m i = true) (hi : NoE n (inI mq) mq.tris) => (by
    rw[← hm] at h1 h2 hu
    rw[← hn] at hi hu
    exact meI_of (by omega) (by omega) (by omega) (by omega) hft hdf h1 h2 hu hi:MeI mq))
  have hpo:=Lib.hid hpo0
  have hft:=Lib.hid hft;rename_i h_;clear h_
  have hn:=Lib.hid hn;rename_i h_;clear h_
  have hm:=Lib.hid hm;rename_i h_;clear h_
  have hcapt:=ht.cap
  clear hdf hpo0
  go_enter Tryz.func21,Tryz.ntmps21
  go_wp2_with fail
  refine calls_gen (fun W=> Bl w W∧Blk W w.heap.size 36 #[.slice (some ⟨gp,0,none⟩) n cp,.slice (some ⟨gt,0,none⟩) m ct]) ⟨slc,bts⟩ ?_
  rintro W ⟨hbW,hM⟩
  refine(arePoints_yes _ (RdPS.bl hp hbW) hpo.out (by omega) (by omega)).mono ?_
  rintro e w1 ⟨rfl,hb1⟩
  have hM:=hM.bl hb1
  have hbW:=hbW.next hb1
  clear hb1
  obtain⟨r0,r1⟩:=bx2 hM
  go_wp2_with fail
  refine(within_yes _ (show (1:Int)≤(m:Int) by omega) (show (m:Int)≤48 by omega)).mono ?_
  rintro e w2 ⟨rfl,q1,rfl⟩
  have hM:=hM.bl ((Bl.refl w1).drewN q1)
  have hbW:=hbW.next ((Bl.refl w1).drewN q1)
  obtain⟨w3,hw3⟩:∃ w3,w1.drewN q1=w3:=⟨_,rfl⟩
  rw[hw3] at hM hbW ⊢
  clear r0 r1 hw3
  obtain⟨r0,r1⟩:=bx2 hM
  go_wp2_with fail
  refine(place_c _ (RdPS.bl hp hbW) hft.out (by omega) (by omega)).mono ?_
  rintro e w4 ⟨Xp,nx,cx,Yp,ny,cy,rfl,hT,hI,hb4⟩
  have hM:=hM.bl hb4
  have hbW:=hbW.next hb4
  have hMl:=hM.lt
  clear r0 r1 hb4
  obtain⟨r0,r1⟩:=bx2 hM
  have hmk:=fun W:World=> make_bools n (by omega) W
  go_wp2_with fail
  refine wp_gen (fun W5=> Bl w4 W5∧∃ gb gu,Blk W5 gb 90 #[.slice (some ⟨gp,0,none⟩) n cp,.slice Xp nx cx,.slice Yp ny cy]∧OwU W5 gu n (usedTo mq.tris 0)∧gb=w4.heap.size∧gu=w4.heap.size+1) ⟨by exact slc,_,_,by exact bts,by have:=OwU.made (w4.alloc (.cells #[.slice (some ⟨gp,0,none⟩) n cp,.slice Xp nx cx,.slice Yp ny cy] 90)) n (usedTo mq.tris 0) (fun _=> rfl);rw[World.size_alloc] at this;exact this,rfl,rfl⟩ ?_
  rintro W5 ⟨hb5,gb,gu,hQ,hU,hgb,hgu⟩
  rw[← hgu,← hgb]
  have hgb4:w4.heap.size≤gb:=by omega
  have hgu4:w4.heap.size≤gu:=by omega
  have hbu:gb≠gu:=by omega
  clear hgb hgu hmk r0 r1
  go_loopw [32] (fun v wr=> ∃ k:Nat,k≤m∧v=.int .i64 (k:Int)∧Hid (TrTo mq k∧SpTo mq k)∧OwU wr gu n (usedTo mq.tris k)∧Blk wr gb 90 #[.slice (some ⟨gp,0,none⟩) n cp,.slice Xp nx cx,.slice Yp ny cy]∧Bl w4 wr) (fun v _=> m - (intOf v).toNat)
  case atStart=> exact⟨0,by omega,rfl,Lib.hid ⟨fun q hq=> by omega,fun q hq=> by omega⟩,hU,hQ,hb5⟩
  case round =>
    clear hU hQ hb5
    obtain⟨k,hk,rfl,hST,hU,hQ,hbw⟩:=hrel
    obtain⟨wo,rfl⟩:∃ wo:World,wo=wr:=⟨_,rfl⟩
    by_cases hkm:k < m
    · have hki:(k:Int) < (m:Int):=by omega
      have hbo:=hbW.next hbw
      obtain⟨c0,c1,c2,c3,c4⟩:=trs_lit (RdTS.bl ht hbo) hkm
      obtain⟨t,hte⟩:∃ t,pix mq.tris k=t:=⟨_,rfl⟩
      have husd:=Lib.hid (fun x=> usedLast mq.tris hte x)
      have hsts:=Lib.hid (fun (h0:TriOkS (sgI mq) mq.pts.length t) (h:SpAt mq t k) =>(⟨hST.out.1.step hte h0,hST.out.2.step hte h⟩:TrTo mq (k+1)∧SpTo mq (k+1)))
      have hspk:=Lib.hid (fun (hok:MeI mq) =>(by rw[← hte];exact⟨hok.tri (by rw[hm.out];exact hkm),hok.spAt (by rw[hm.out];exact hkm)⟩:TriOkS (sgI mq) mq.pts.length t∧SpAt mq t k))
      have hotr:=Lib.hid (fun (j:Nat) (hj:j < k)=> hST.out.1 j hj)
      clear hST
      rw[hte] at c0 c1 c2 c3 c4
      clear hte
      obtain⟨p0,p1,p2⟩:=bx3 hQ
      have hQl:=hQ.lt
      go_wp2_with fail
      refine calls_gen (fun W6=> Bl wo W6∧∃ g6,Blk W6 g6 69 #[.int .i64 t.a,.int .i64 t.b,.int .i64 t.c,.int .i64 t.region,.int .i64 t.level]∧g6=wo.heap.size) ⟨by exact slc,_,by exact bts,rfl⟩ ?_
      rintro W6 ⟨hb6,g6,h6,hg6⟩
      rw[← hg6]
      have hg64:w4.heap.size≤g6:=by have:=hbw.size;omega
      have hu6:gu≠g6:=by have:=hU.lt;omega
      clear c0 c1 c2 c3 c4 p0 p1 p2 hg6
      have hQ:=hQ.bl hb6
      have hU:=hU.bl hb6
      refine(triangleOk_g _ (hT.bl (hbw.next hb6)) (by omega) t).mono ?_
      rintro e w7 ⟨b7,rfl,hbq7,hb7⟩
      rw[hn.out] at hspk
      have hbq7:=Lib.hid hbq7;rename_i h_;clear h_
      by_cases hb7t:b7=false
      · subst hb7t
        have hbd:=Lib.hid (show ¬ MeI mq from fun h=> Bool.noConfusion (hbq7.out.2 (hspk.out h).1))
        clear hbq7 hspk
        go_wp2_with fail
        go_ret
        exact yres_false hbd.out ((hbW.next (hbw.next hb6)).next hb7)
      have hb7t:b7=true:=by cases b7 <;> simp_all
      subst hb7t
      have htok:=Lib.hid (hbq7.out.1 rfl)
      clear hbq7
      have htx2:=Lib.hid htok.out.1
      have hsts:=Lib.hid (hsts.out (by rw[hn.out];exact htok.out))
      have hspk:=Lib.hid (fun h =>(hspk.out h).2)
      obtain⟨⟨ta0,ta1⟩,⟨tb0,tb1⟩,tc0,tc1⟩:=htok.out.1
      have hQ:=hQ.bl hb7
      have hU:=hU.bl hb7
      have h6:=h6.bl hb7
      have hb67:=hb6.next hb7
      clear hb6 hb7
      obtain⟨c0,c1,c2,c3,c4⟩:=bx5 h6
      have h6l:=h6.lt
      go_wp2_with fail
      refine(corners_any _ t).mono ?_
      rintro e w8 ⟨rfl,hb8⟩
      have hQ:=hQ.bl hb8
      have hU:=hU.bl hb8
      have h6:=h6.bl hb8
      have hb68:=hb67.next hb8
      clear hb67 hb8 c0 c1 c2 c3 c4
      have hb48:=hbw.next hb68
      go_wp2_with fail
      go_loopw [43] (fun v wr=> ∃ i:Nat,i≤3∧v=.int .i64 (i:Int)∧OwU wr gu n (usedIn mq.tris k t i)∧Blk wr gb 90 #[.slice (some ⟨gp,0,none⟩) n cp,.slice Xp nx cx,.slice Yp ny cy]∧Blk wr g6 69 #[.int .i64 t.a,.int .i64 t.b,.int .i64 t.c,.int .i64 t.region,.int .i64 t.level]∧Bl w4 wr) (fun v _=> 3 - (intOf v).toNat)
      case atStart=> exact⟨0,by omega,rfl,hU,hQ,h6,hb48⟩
      case round =>
        clear hU hQ h6 hb48 hb68
        obtain⟨i,hi,rfl,hUi,hQ,h6,hbi⟩:=hrel
        rcases(show i=0∨i=1∨i=2∨i=3 by omega) with rfl | rfl | rfl | rfl
        · skip
          have e0:((0:Nat):Int)=0:=rfl
          rw[e0]
          clear e0 hi
          obtain⟨wj,rfl⟩:∃ wj:World,wj=wr:=⟨_,rfl⟩
          have hix:∀ W:World,(Instr.index 94 (.agg #[.int .i64 t.a,.int .i64 t.b,.int .i64 t.c]) (.int .i64 0)).run Tryz.prog W=.ok (.int .i64 t.a) W:=fun _=> by kernel_rfl
          have ux:=hUi.cell (i:=t.a.toNat) (by omega)
          have uf:=hUi.frozen t.a.toNat
          go_wp2_with fail
          go_roundw
          case rel=> exact⟨1,by omega,rfl,(hUi.set t.a.toNat true).congr (fun x hx=> usedIn_step0 mq.tris k t x ta0),hQ.far hbu _,h6.far (Ne.symm hu6) _,Bl.set hbi hgu4 _⟩
          case measure=> simp[intOf]
        · skip
          have e0:((1:Nat):Int)=1:=rfl
          rw[e0]
          clear e0 hi
          obtain⟨wj,rfl⟩:∃ wj:World,wj=wr:=⟨_,rfl⟩
          have hix:∀ W:World,(Instr.index 94 (.agg #[.int .i64 t.a,.int .i64 t.b,.int .i64 t.c]) (.int .i64 1)).run Tryz.prog W=.ok (.int .i64 t.b) W:=fun _=> by kernel_rfl
          have ux:=hUi.cell (i:=t.b.toNat) (by omega)
          have uf:=hUi.frozen t.b.toNat
          go_wp2_with fail
          go_roundw
          case rel=> exact⟨2,by omega,rfl,(hUi.set t.b.toNat true).congr (fun x hx=> usedIn_step1 mq.tris k t x tb0),hQ.far hbu _,h6.far (Ne.symm hu6) _,Bl.set hbi hgu4 _⟩
          case measure=> simp[intOf]
        · skip
          have e0:((2:Nat):Int)=2:=rfl
          rw[e0]
          clear e0 hi
          obtain⟨wj,rfl⟩:∃ wj:World,wj=wr:=⟨_,rfl⟩
          have hix:∀ W:World,(Instr.index 94 (.agg #[.int .i64 t.a,.int .i64 t.b,.int .i64 t.c]) (.int .i64 2)).run Tryz.prog W=.ok (.int .i64 t.c) W:=fun _=> by kernel_rfl
          have ux:=hUi.cell (i:=t.c.toNat) (by omega)
          have uf:=hUi.frozen t.c.toNat
          go_wp2_with fail
          go_roundw
          case rel=> exact⟨3,by omega,rfl,(hUi.set t.c.toNat true).congr (fun x hx=> usedIn_step2 mq.tris k t x tc0),hQ.far hbu _,h6.far (Ne.symm hu6) _,Bl.set hbi hgu4 _⟩
          case measure=> simp[intOf]
        · have e0:((3:Nat):Int)=3:=rfl
          rw[e0]
          clear e0 hi
          obtain⟨wj,rfl⟩:∃ wj:World,wj=wr:=⟨_,rfl⟩
          have hMj:=hM.bl hbi
          have hMjl:=hMj.lt
          obtain⟨r0,r1⟩:=bx2 hMj
          go_wp2_with fail
          clear r0 r1
          go_loopw [55] (fun v wr=> ∃ j:Nat,j≤k∧v=.int .i64 (j:Int)∧Hid (SpAt mq t j)∧Bl wj wr) (fun v _=> k - (intOf v).toNat)
          case atStart=> exact⟨0,by omega,rfl,Lib.hid (fun q hq=> by omega),Bl.refl _⟩
          case round =>
            obtain⟨j,hj,rfl,hSI,hbj⟩:=hrel
            obtain⟨wp,rfl⟩:∃ wp:World,wp=wr:=⟨_,rfl⟩
            have hb4p:=hbi.next hbj
            by_cases hjk:j < k
            · have hji:(j:Int) < (k:Int):=by omega
              obtain⟨c0,c1,c2,c3,c4⟩:=trs_lit (RdTS.bl ht (hbW.next hb4p)) (show j < m by omega)
              have hsx:=Lib.hid (hotr.out j hjk).1
              obtain⟨s,hse⟩:∃ s,pix mq.tris j=s:=⟨_,rfl⟩
              rw[hse] at c0 c1 c2 c3 c4 hsx
              have hsis:=Lib.hid (fun (h:sepS (sgI mq) s t=true∨sepS (sgI mq) t s=true)=> hSI.out.step hse h)
              have hbad:=Lib.hid (fun (hok:MeI mq) =>((hspk.out hok).get hjk hse:sepS (sgI mq) s t=true∨sepS (sgI mq) t s=true))
              clear hSI
              clear hse
              have hQ2:=hQ.bl hbj
              have h62:=h6.bl hbj
              have hQl:=hQ2.lt
              have h6l:=h62.lt
              obtain⟨p0,p1,p2⟩:=bx3 hQ2
              obtain⟨d0,d1,d2,d3,d4⟩:=bx5 h62
              go_wp2_with fail
              refine calls_gen (fun W9=> Bl wp W9∧∃ g9,Blk W9 g9 69 #[.int .i64 s.a,.int .i64 s.b,.int .i64 s.c,.int .i64 s.region,.int .i64 s.level]∧g9=wp.heap.size) ⟨by exact slc,_,by exact bts,rfl⟩ ?_
              rintro W9 ⟨hb9,g9,h9,hg9⟩
              rw[← hg9]
              clear c0 c1 c2 c3 c4 p0 p1 p2 d0 d1 d2 d3 d4 hg9
              have hQ2:=hQ2.bl hb9
              have h62:=h62.bl hb9
              refine(separates_g _ (hT.bl (hb4p.next hb9)) s t (by rw[← hn.out];exact hsx.out) htx2.out).mono ?_
              by_cases h1:sepS (sgI mq) s t=true
              · rw[h1]
                rintro e w10 ⟨rfl,hb10⟩
                have h1:=Lib.hid h1;rename_i h_;clear h_
                go_wp2_with fail
                go_roundw
                case rel=> exact⟨j+1,by omega,by go_num,Lib.hid (hsis.out (.inl h1.out)),hbj.next (hb9.next hb10)⟩
                case measure=> simp[intOf];omega
              · rw[Bool.eq_false_iff.2 h1]
                rintro e w10 ⟨rfl,hb10⟩
                have h1:=Lib.hid h1;rename_i h_;clear h_
                obtain⟨b2,h2⟩:∃ b2,sepS (sgI mq) t s=b2:=⟨_,rfl⟩
                have h2:=Lib.hid h2;rename_i h_;clear h_
                have hQ2:=hQ2.bl hb10
                have h62:=h62.bl hb10
                have h92:=h9.bl hb10
                have hb910:=hb9.next hb10
                clear hb9 hb10
                have hQl:=hQ2.lt
                have h6l:=h62.lt
                have h9l:=h92.lt
                obtain⟨p0,p1,p2⟩:=bx3 hQ2
                obtain⟨d0,d1,d2,d3,d4⟩:=bx5 h62
                obtain⟨c0,c1,c2,c3,c4⟩:=bx5 h92
                go_wp2_with fail
                refine(separates_g _ (hT.bl (hb4p.next hb910)) t s htx2.out (by rw[← hn.out];exact hsx.out)).mono ?_
                rw[h2.out]
                rintro e w11 ⟨rfl,hb11⟩
                cases b2
                · go_wp2_with fail
                  go_ret
                  exact yres_false (fun hok =>(hbad.out hok).elim h1.out (fun h=> by rw[h2.out] at h;cases h)) (((hbW.next hb4p).next hb910).next hb11)
                · go_wp2_with fail
                  go_roundw
                  case rel=> exact⟨j+1,by omega,by go_num,Lib.hid (hsis.out (.inr h2.out)),hbj.next (hb910.next hb11)⟩
                  case measure=> simp[intOf];omega
            · obtain rfl:j=k:=by omega
              have hkm2:¬ (j:Int) < (j:Int):=by omega
              go_wp2_with fail
              go_roundw
              case rel=> exact⟨j+1,by omega,by go_num,Lib.hid (hsts.out hSI.out),(hUi.bl hbj).congr (fun x _=> husd.out x),hQ.bl hbj,hb4p⟩
              case measure=> simp[intOf];omega
    · obtain rfl:k=m:=by omega
      have hkm2:¬ (k:Int) < (k:Int):=by omega
      have hcell:=Lib.hid (fun i (hi:i < n)=> hU.cell hi)
      go_wp2_with fail
      refine(ContainsBool_q _ hcell.out (by omega)).mono ?_
      rintro e w9 ⟨bc,rfl,hbc,hb9⟩
      have hbc:=Lib.hid hbc;rename_i h_;clear h_
      have hmO:=Lib.hid (fun (h:MeI mq) =>(⟨by have:=h.usd;rw[hn.out,hm.out] at this;exact this,by have:=h.noE;rw[hn.out] at this;exact this⟩:(∀ i,i < n→usedTo mq.tris k i=true)∧NoE n (inI mq) mq.tris))
      have hixs:=Lib.hid (show TrsIx n mq.tris from fun i hi=> by have:=(hST.out.1 i (by rw[← hm.out];exact hi)).1;rw[hn.out] at this;exact this)
      have hbw:=hbw.next hb9
      have hQ:=hQ.bl hb9
      clear hb9
      cases bc
      · have hus:=Lib.hid (hbc.out.1 rfl)
        clear hbc
        obtain⟨p0,p1,p2⟩:=bx3 hQ
        obtain⟨r0,r1⟩:=bx2 (hM.bl hbw)
        go_wp2_with fail
        refine(hasInside_g _ (hI.bl hbw) (by omega) (RdTS.bl ht (hbW.next hbw)) hixs.out).mono ?_
        rintro e w10 ⟨bh,rfl,hbh,hb10⟩
        have hbh:=Lib.hid hbh;rename_i h_;clear h_
        cases bh
        · have hall:=Lib.hid (hfin.out hST.out.1 hST.out.2 hus.out (hbh.out.1 rfl))
          go_wp2_with fail
          go_ret
          exact yres_true hall.out ((hbW.next hbw).next hb10)
        · go_wp2_with fail
          go_ret
          exact yres_false (fun h=> by have:=hbh.out.2 (hmO.out h).2;cases this) ((hbW.next hbw).next hb10)
      · go_wp2_with fail
        go_ret
        exact yres_false (fun h=> by have:=hbc.out.2 (hmO.out h).1;cases this) (hbW.next hbw)
end

end Go.Proofs.YtjaapemopbbfaaaGreat
