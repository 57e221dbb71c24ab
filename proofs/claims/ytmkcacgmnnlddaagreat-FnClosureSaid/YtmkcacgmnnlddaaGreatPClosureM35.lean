import Derived.Test.YtmkcacgmnnlddaaGreatRows
import Derived.Test.YtmkcacgmnnlddaaGreatPClosureM34
import Derived.Test.YtmkcacgmnnlddaaGreatPClosureM03
import Derived.Test.YtmkcacgmnnlddaaGreatPClosureM28
import Derived.Test.YtmkcacgmnnlddaaGreatPClosureM30
import Derived.Test.YtmkcacgmnnlddaaGreatPClosureM29
namespace Go.Proofs.YtmkcacgmnnlddaaGreat
section
open Go.RowKit
structure RmOk (m x:MeQ):Prop where
 eq:bisM m (rmL m x)=x
 pts:x.pts=m.pts++(rmL m x).map (mdP m (edL m.tris))
theorem inB_len (m x:MeQ):(inB m x).length=(edL m.tris).length:=by simp[inB]
theorem bgt_inB {m x:MeQ}{k:Nat}(h:k<(edL m.tris).length):bgt (inB m x) k=x.pts.contains (mdP m (edL m.tris) (k:Int)):=by
 unfold bgt inB
 rw[List.getD_eq_getElem?_getD,List.getElem?_map,List.getElem?_range h]
 rfl
def paL (m:MeQ) (l:List Int):List (List Int):=(List.range m.pts.length).map (fun i:Nat=>[(i:Int)])++l.map fun k=>[(pix (edL m.tris) k.toNat).a,(pix (edL m.tris) k.toNat).b]
theorem tp_inj {p q:Rat × Rat}(h:tp p=tp q):p=q:=by
 have h1:=toR_inj (congrArg PtD.x h)
 have h2:=toR_inj (congrArg PtD.y h)
 exact Prod.ext h1 h2
end
section
open Go.RowKit
def ClB (ts:List TriD) (L:List EdD) (bl:List Bool) (k:Nat):Prop :=
 ∀j,j<k→¬(bgt bl (posE (newE (pix ts j).b (pix ts j).c) L)=false∧(bgt bl (posE (newE (pix ts j).a (pix ts j).b) L)=true∨bgt bl (posE (newE (pix ts j).c (pix ts j).a) L)=true))
theorem clTo_stop {ts:List TriD}{L:List EdD}{bl:List Bool}:∀{k:Nat},(clTo ts L bl k).2=false→(clTo ts L bl k).1=bl∧ClB ts L bl k
 | 0,_=>⟨rfl,fun j hj=>by omega⟩
 | k+1,h=>by
  unfold clTo clT at h ⊢
  split at h
  ·cases h
  ·rename_i hc
   rw[if_neg hc]
   obtain⟨h1,h2⟩:=clTo_stop h
   rw[h1]at hc
   refine⟨h1,fun j hj=>?_⟩
   rcases(show j<k∨j=k by omega)with hj|rfl
   ·exact h2 j hj
   ·exact hc
theorem clTo_fix {ts:List TriD}{L:List EdD}{bl:List Bool}:∀{k:Nat},ClB ts L bl k→clTo ts L bl k=(bl,false)
 | 0,_=>rfl
 | k+1,h=>by
  unfold clTo
  rw[clTo_fix (fun j hj=>h j (by omega))]
  unfold clT
  exact if_neg (h k (by omega))
theorem clF_fix {ts:List TriD}{L:List EdD}{bl:List Bool}(h:ClB ts L bl ts.length):∀f,clF ts L f bl=bl
 | 0=>rfl
 | f+1=>by
  unfold clF
  rw[clTo_fix h]
  rfl
theorem clF_closed {ts:List TriD}{L:List EdD}(hE:EdHas ts L):∀{f:Nat}{bl:List Bool},bl.length=L.length→dnB bl<f→ClB ts L (clF ts L f bl) ts.length
 | 0,_,_,h=>by omega
 | f+1,bl,hl,h=>by
  have h1:=clTo_dn hl hE ts.length (Nat.le_refl _)
  unfold clF
  split
  ·rename_i hc
   rw[if_pos hc]at h1
   exact clF_closed hE (by rw[clTo_len];exact hl) (by omega)
  ·rename_i hc
   obtain⟨e,h2⟩:=clTo_stop (Bool.eq_false_iff.2 hc)
   rw[e]
   exact h2
theorem bgt_set_mono {bl:List Bool}{k i:Nat}(h:bgt bl i=true):bgt (bl.set k true) i=true:=by
 have hi:i < bl.length:=by
  rcases Nat.lt_or_ge i bl.length with h1|h1
  ·exact h1
  ·unfold bgt at h
   rw[List.getD_eq_getElem?_getD,List.getElem?_eq_none h1]at h
   cases h
 rw[←bgt_set rfl true i hi]
 split
 ·rfl
 ·exact h
theorem clTo_mono {ts:List TriD}{L:List EdD}{bl:List Bool}{i:Nat}(h:bgt bl i=true):∀k,bgt (clTo ts L bl k).1 i=true
 | 0=>h
 | k+1=>by
  have h1:=clTo_mono (ts:=ts) (L:=L) h k
  unfold clTo clT
  split
  ·exact bgt_set_mono h1
  ·exact h1
theorem clF_mono {ts:List TriD}{L:List EdD}{i:Nat}:∀{f:Nat}{bl:List Bool},bgt bl i=true→bgt (clF ts L f bl) i=true
 | 0,_,h=>h
 | f+1,bl,h=>by
  have h1:=clTo_mono (ts:=ts) (L:=L) h ts.length
  unfold clF
  split
  ·exact clF_mono h1
  ·exact h1
theorem mkTo_bgt {l:List Int}{n i:Nat}(hi:i<n):∀{k:Nat},bgt (mkTo l n k) i=true↔∃j,j<k∧ix l j=(i:Int)
 | 0=>⟨fun h=>(by rw[mkTo,bgt_rep]at h;cases h),fun ⟨j,hj,_⟩=>by omega⟩
 | k+1=>by
  have ih:=mkTo_bgt (l:=l) (n:=n) hi (k:=k)
  unfold mkTo
  by_cases hc:0≤ix l k∧ix l k≤(n:Int)-1
  ·rw[if_pos hc,←bgt_set (mkTo_len l n k) true i hi]
   by_cases e:i=(ix l k).toNat
   ·rw[if_pos e]
    exact⟨fun _=>⟨k,by omega,by omega⟩,fun _=>rfl⟩
   ·rw[if_neg e,ih]
    exact⟨fun ⟨j,hj,h⟩ =>⟨j,by omega,h⟩,fun ⟨j,hj,h⟩ =>⟨j,by
     rcases(show j<k∨j=k by omega)with h1|rfl
     ·exact h1
     ·exact absurd (by omega) e,h⟩⟩
  ·rw[if_neg hc,ih]
   exact⟨fun ⟨j,hj,h⟩ =>⟨j,by omega,h⟩,fun ⟨j,hj,h⟩ =>⟨j,by
    rcases(show j<k∨j=k by omega)with h1|rfl
    ·exact h1
    ·exact absurd ⟨by omega,by omega⟩ hc,h⟩⟩
theorem mem_ix {l:List Int}{x:Int}(h:x∈l):∃j,j<l.length∧ix l j=x:=by
 obtain⟨j,hj,e⟩:=List.mem_iff_getElem.1 h
 exact⟨j,hj,by unfold ix;rw[List.getD_eq_getElem?_getD,List.getElem?_eq_getElem hj];exact e⟩
theorem mkA_bgt {l:List Int}{n i:Nat}(hi:i<n):bgt (mkA l n) i=true↔(i:Int)∈l:=by
 unfold mkA
 rw[mkTo_bgt hi]
 constructor
 ·rintro ⟨j,hj,e⟩
  rw[←e]
  exact ix_mem hj
 ·exact mem_ix
theorem bgt_ext {a b:List Bool}(hl:a.length=b.length) (h:∀i,i<a.length→(bgt a i=true↔bgt b i=true)):a=b:=by
 refine List.ext_getElem hl fun i h1 h2=>?_
 have h3:=h i h1
 unfold bgt at h3
 rw[List.getD_eq_getElem?_getD,List.getD_eq_getElem?_getD,List.getElem?_eq_getElem h1,List.getElem?_eq_getElem h2]at h3
 exact Bool.eq_iff_iff.2 h3
theorem mem_lsTo {bl:List Bool}{k i:Nat}:(i:Int)∈lsTo bl k↔i<k∧bgt bl i=true:=by
 unfold lsTo
 rw[List.mem_map]
 constructor
 ·rintro ⟨j,hj,e⟩
  obtain rfl:j=i:=by omega
  have h:=List.mem_filter.1 hj
  exact⟨List.mem_range.1 h.1,h.2⟩
 ·rintro ⟨h1,h2⟩
  exact⟨i,List.mem_filter.2 ⟨List.mem_range.2 h1,h2⟩,rfl⟩
theorem mkA_lsTo {bl:List Bool}{n:Nat}(hl:bl.length=n):mkA (lsTo bl n) n=bl:=by
 refine bgt_ext (by rw[mkA_len,hl]) fun i hi=>?_
 rw[mkA_len]at hi
 rw[mkA_bgt hi,mem_lsTo]
 exact⟨fun h=>h.2,fun h=>⟨hi,h⟩⟩
theorem clA_closed {ts:List TriD}(hE:EdHas ts (edL ts)) (l:List Int):ClB ts (edL ts) (clA ts l) ts.length :=
 clF_closed hE (mkA_len _ _) (by have:=dnB_le (mkA l (edL ts).length);rw[mkA_len]at this;omega)
theorem clA_idem {ts:List TriD}(hE:EdHas ts (edL ts)) (l:List Int):clA ts (lsTo (clA ts l) (edL ts).length)=clA ts l:=by
 have h:=clA_closed hE l
 show clF ts (edL ts) ((edL ts).length+1) (mkA (lsTo (clA ts l) (edL ts).length) (edL ts).length)=clA ts l
 rw[mkA_lsTo (clA_len ts l),clF_fix h]
theorem clA_has {ts:List TriD}{l:List Int}{i:Nat}(hi:i<(edL ts).length) (h:(i:Int)∈l):bgt (clA ts l) i=true:=clF_mono ((mkA_bgt hi).2 h)
def allP (m:MeQ):List (Rat × Rat):=m.pts++(List.range (edL m.tris).length).map fun k:Nat=>mdP m (edL m.tris) (k:Int)
theorem bp_sub (m:MeQ) (bl:List Bool):(bpTo m (edL m.tris) bl (edL m.tris).length).Sublist (allP m):=by
 unfold bpTo allP lsTo
 rw[List.map_map]
 exact List.Sublist.append (List.Sublist.refl _) (List.Sublist.map _ List.filter_sublist)
theorem allP_out {m:MeQ}(h:(allP m).Nodup) {k:Nat}(hk:k<(edL m.tris).length):mdP m (edL m.tris) (k:Int)∉m.pts:=by
 unfold allP at h
 intro hm
 exact(List.nodup_append.1 h).2.2 _ hm _ (List.mem_map.2 ⟨k,List.mem_range.2 hk,rfl⟩) rfl
theorem allP_inj {m:MeQ}(h:(allP m).Nodup) {j k:Nat}(hj:j<(edL m.tris).length) (hk:k<(edL m.tris).length) (e:mdP m (edL m.tris) (j:Int)=mdP m (edL m.tris) (k:Int)):j=k:=by
 unfold allP at h
 have h2:=(List.nodup_append.1 h).2.1
 have h3:=List.pairwise_iff_getElem.1 (show List.Pairwise (·≠·) _ from h2)
 simp only[List.length_map,List.length_range,List.getElem_map,List.getElem_range]at h3
 rcases Nat.lt_trichotomy j k with h4|h4|h4
 ·exact absurd e (h3 j k hj hk h4)
 ·exact h4
 ·exact absurd e.symm (h3 k j hk hj h4)
theorem rmL_eq {m:MeQ}(h:(allP m).Nodup) {bl:List Bool}(hl:bl.length=(edL m.tris).length):rmL m (bisL m (edL m.tris) bl)=lsTo bl (edL m.tris).length:=by
 unfold rmL
 have e:inB m (bisL m (edL m.tris) bl)=bl:=by
  refine bgt_ext (by rw[inB_len,hl]) fun i hi=>?_
  rw[inB_len]at hi
  rw[bgt_inB hi,List.contains_iff_mem]
  show mdP m (edL m.tris) (i:Int)∈m.pts++(lsTo bl (edL m.tris).length).map (mdP m (edL m.tris))↔_
  rw[List.mem_append]
  constructor
  ·rintro (h1|h1)
   ·exact absurd h1 (allP_out h hi)
   ·obtain⟨x,hx,e⟩:=List.mem_map.1 h1
    obtain⟨x0,x1⟩:=lsTo_mem hx
    obtain⟨j,rfl⟩:∃j:Nat,x=(j:Int):=⟨x.toNat,by omega⟩
    obtain rfl:=allP_inj h (by omega) hi e
    exact(mem_lsTo.1 hx).2
  ·exact fun h1=>.inr (List.mem_map.2 ⟨i,mem_lsTo.2 ⟨hi,h1⟩,rfl⟩)
 rw[e]
theorem rm_gen {m:MeQ}(h:(allP m).Nodup) (hE:EdHas m.tris (edL m.tris)) (l:List Int):RmOk m (bisM m l):=by
 have e:rmL m (bisM m l)=lsTo (clA m.tris l) (edL m.tris).length:=rmL_eq h (clA_len _ _)
 refine⟨?_,?_⟩
 ·rw[e]
  unfold bisM
  rw[clA_idem hE]
 ·rw[e]
  rfl
end
section
open Go.RowKit
def smC (p:Rat × Rat):Prop:=(p.1.den∣4∧p.1.num.natAbs≤100)∧p.2.den∣4∧p.2.num.natAbs≤100
instance (p:Rat × Rat):Decidable (smC p):=by unfold smC;infer_instance
def okC (m:MeQ):Bool :=
 decide (m.pts.length+(edL m.tris).length≤40∧4*m.tris.length≤48)&&(decide (allP m).Nodup&&(decide (∀p∈allP m,smC p)&&decide (∀k,k<m.tris.length→(pix m.tris k).level≤58)))
theorem shS_dvd {s d n:Nat}(h1:s∣n) (h2:d∣n):shS s d∣n:=by
 have e:shS s d=Nat.lcm s d:=by
  unfold shS Nat.lcm
  rw[Nat.div_mul_right_comm (Nat.gcd_dvd_left s d)]
 rw[e]
 exact Nat.lcm_dvd h1 h2
theorem dvd_shS {s d:Nat}:s∣shS s d∧d∣shS s d:=by
 have e:shS s d=Nat.lcm s d:=by
  unfold shS Nat.lcm
  rw[Nat.div_mul_right_comm (Nat.gcd_dvd_left s d)]
 rw[e]
 exact⟨Nat.dvd_lcm_left s d,Nat.dvd_lcm_right s d⟩
theorem shTo_dvd {pts:List (Rat × Rat)}{n:Nat}(h:∀k,k<pts.length→(pix pts k).1.den∣n∧(pix pts k).2.den∣n):∀k,k≤pts.length→shTo pts k∣n
 | 0,_=>Nat.one_dvd n
 | k+1,hk=>shS_dvd (shS_dvd (shTo_dvd h k (by omega)) (h k (by omega)).1) (h k (by omega)).2
theorem shTo_up {pts:List (Rat × Rat)}{j:Nat}:∀{k:Nat},j≤k→shTo pts j∣shTo pts k
 | 0,h=>by
  obtain rfl:j=0:=by omega
  exact Nat.dvd_refl _
 | k+1,h=>by
  rcases(show j≤k∨j=k+1 by omega)with h|rfl
  ·exact Nat.dvd_trans (shTo_up h) (Nat.dvd_trans dvd_shS.1 dvd_shS.1)
  ·exact Nat.dvd_refl _
theorem shTo_ne (pts:List (Rat × Rat)):∀k,shTo pts k≠0
 | 0=>Nat.one_ne_zero
 | k+1=>by
  have e:∀s d:Nat,shS s d=Nat.lcm s d:=fun s d=>by
   unfold shS Nat.lcm
   rw[Nat.div_mul_right_comm (Nat.gcd_dvd_left s d)]
  unfold shTo
  rw[e,e]
  have h1:=Nat.pos_of_ne_zero (shTo_ne pts k)
  exact Nat.ne_of_gt (Nat.lcm_pos (Nat.lcm_pos h1 (Rat.den_pos _)) (Rat.den_pos _))
theorem den_shTo {pts:List (Rat × Rat)}{i k:Nat}(h:i<k):(pix pts i).1.den∣shTo pts k∧(pix pts i).2.den∣shTo pts k :=
 ⟨Nat.dvd_trans (Nat.dvd_trans dvd_shS.2 dvd_shS.1) (shTo_up (show i+1≤k from h)),Nat.dvd_trans dvd_shS.2 (shTo_up (show i+1≤k from h))⟩
theorem scale_bd {q:Rat}{S:Nat}(h:q.num.natAbs≤100) (hS:S≤4) : -536870912≤q.num*((S / q.den:Nat):Int)∧q.num*((S / q.den:Nat):Int)≤536870912:=by
 have h1:(q.num * ((S / q.den:Nat):Int)).natAbs≤100 * 4:=by
  rw[Int.natAbs_mul,Int.natAbs_natCast]
  exact Nat.mul_le_mul h (Nat.le_trans (Nat.div_le_self _ _) hS)
 omega
theorem pl_of {pts:List (Rat × Rat)}(h:∀k,k<pts.length→smC (pix pts k)):PlOk pts:=by
 have hd:=shTo_dvd (pts:=pts) (n:=4) (fun k hk=>⟨(h k hk).1.1,(h k hk).2.1⟩)
 have hle:∀k,k≤pts.length→shTo pts k≤4:=fun k hk=>Nat.le_of_dvd (by decide) (hd k hk)
 refine⟨fun k hk=>?_,fun k hk=>?_,fun k hk=>?_⟩
 ·obtain⟨⟨a,b⟩,c,d⟩:=h k hk
  have a:=Nat.le_of_dvd (by decide) a
  have c:=Nat.le_of_dvd (by decide) c
  exact⟨⟨by omega,by omega⟩,by omega,by omega⟩
 ·have h1:=Nat.le_of_dvd (by decide) (shS_dvd (hd k (by omega)) (h k hk).1.1)
  have h2:=hle (k+1) (by omega)
  omega
 ·rw[ix_plXs pts hk,ix_plYs pts hk]
  have h1:=scale_bd (h k hk).1.2 (hle pts.length (Nat.le_refl _))
  have h2:=scale_bd (h k hk).2.2 (hle pts.length (Nat.le_refl _))
  exact⟨h1.1,h1.2,h2.1,h2.2⟩
theorem rat_scale (q:Rat) {S:Nat}(h:q.den∣S):((q.num*((S / q.den:Nat):Int):Int):Rat)=(S:Rat)*q:=by
 obtain⟨c,rfl⟩:=h
 rw[Nat.mul_div_cancel_left _ q.den_pos]
 have h2:((q.den:Nat):Rat) * q=(q.num:Rat):=by
  have h3:q=(q.num:Rat) / (q.den:Rat):=by
   have h4:=Rat.mkRat_self q
   rw[Rat.mkRat_eq_div]at h4
   exact h4.symm
  have h5:((q.den:Nat):Rat)≠0:=by
   have:=q.den_pos
   exact_mod_cast (show q.den≠0 by omega)
  rw[Rat.mul_comm]
  conv=>lhs;arg 1;rw[h3]
  exact Rat.div_mul_cancel h5
 push_cast
 grind
def crQ (p q r:Rat × Rat):Rat:=(q.1-p.1)*(r.2-p.2)-(q.2-p.2)*(r.1-p.1)
theorem crQ_A (p q r:Rat × Rat):crQ (midQ q r) p q=mkRat 1 2*crQ p q r:=by
 have e:(mkRat 1 2:Rat)=1 / 2:=by decide +kernel
 unfold crQ midQ
 rw[e]
 grind
theorem crQ_B (p q r:Rat × Rat):crQ (midQ q r) r p=mkRat 1 2*crQ p q r:=by
 have e:(mkRat 1 2:Rat)=1 / 2:=by decide +kernel
 unfold crQ midQ
 rw[e]
 grind
theorem half_pos {x:Rat}(h:0<x):0<mkRat 1 2*x:=Rat.mul_pos (by decide +kernel) h
theorem midQ_comm (p q:Rat × Rat):midQ p q=midQ q p:=by
 unfold midQ
 rw[Rat.add_comm p.1,Rat.add_comm p.2]
theorem cmpZ_pos {a:Int}:0<cmpZ a 0↔0<a:=by
 unfold cmpZ
 by_cases h1:a<0
 ·rw[if_pos h1];omega
 ·rw[if_neg h1]
  by_cases h2:0<a
  ·rw[if_pos h2];omega
  ·rw[if_neg h2];omega
theorem trn_cr {m:MeQ}(hn:0<m.pts.length) {a b c:Int}(ha:0≤a∧a<m.pts.length) (hb:0≤b∧b<m.pts.length) (hc:0≤c∧c<m.pts.length) :
  0<trn (plXs m.pts m.pts.length) (plYs m.pts m.pts.length) a b c↔0<crQ (mc m a) (mc m b) (mc m c):=by
 unfold trn
 rw[cmpZ_pos,ix_plXs _ (by omega),ix_plXs _ (by omega),ix_plXs _ (by omega),ix_plYs _ (by omega),ix_plYs _ (by omega),ix_plYs _ (by omega)]
 obtain⟨S,hS⟩:∃S,shTo m.pts m.pts.length=S:=⟨_,rfl⟩
 have key:∀x:Int,0≤x∧x<m.pts.length→((plX m.pts S x.toNat:Int):Rat)=(S:Rat)*(mc m x).1∧((plY m.pts S x.toNat:Int):Rat)=(S:Rat)*(mc m x).2:=fun x hx=>by
  have h1:=den_shTo (pts:=m.pts) (show x.toNat<m.pts.length by omega)
  rw[hS]at h1
  exact⟨rat_scale _ h1.1,rat_scale _ h1.2⟩
 have hS0:(0:Rat) < (S:Rat):=by
  have h1:=(den_shTo (pts:=m.pts) (i:=0) hn).1
  rw[hS]at h1
  have h2:S≠0:=by
   rw[←hS]
   exact shTo_ne m.pts _
  exact_mod_cast Nat.pos_of_ne_zero h2
 rw[hS]
 obtain⟨a1,a2⟩:=key a ha
 obtain⟨b1,b2⟩:=key b hb
 obtain⟨c1,c2⟩:=key c hc
 rw[←Rat.intCast_lt_intCast]
 push_cast
 rw[a1,a2,b1,b2,c1,c2]
 have e:((S:Rat) * (mc m b).1 - (S:Rat) * (mc m a).1) * ((S:Rat) * (mc m c).2 - (S:Rat) * (mc m a).2) - ((S:Rat) * (mc m b).2 - (S:Rat) * (mc m a).2) * ((S:Rat) * (mc m c).1 - (S:Rat) * (mc m a).1)=((S:Rat) * (S:Rat)) * crQ (mc m a) (mc m b) (mc m c):=by
  unfold crQ
  grind
 rw[e]
 have hSS:=Rat.mul_pos hS0 hS0
 constructor
 ·intro h
  exact(Rat.mul_lt_mul_left hSS).1 (by rw[Rat.mul_zero];exact h)
 ·exact fun h=>Rat.mul_pos hSS h
end
section
open Go.RowKit
theorem pix_in {α:Type} [Inhabited α] {l:List α}{k:Nat}(h:k<l.length):pix l k∈l:=by
 unfold pix
 rw[List.getD_eq_getElem?_getD,List.getElem?_eq_getElem h]
 exact List.getElem_mem h
structure ClOk (m:MeQ):Prop where
 fit:FitM m
 n40:m.pts.length+(edL m.tris).length≤40
 t48:4*m.tris.length≤48
 nod:(allP m).Nodup
 sm:∀p∈allP m,smC p
 lev:∀k,k<m.tris.length→(pix m.tris k).level≤58
theorem ClOk.of {m:MeQ}(hf:FitM m) (h:okC m=true):ClOk m:=by
 unfold okC at h
 simp only[Bool.and_eq_true,decide_eq_true_eq]at h
 exact⟨hf,h.1.1,h.1.2,h.2.1,h.2.2.1,h.2.2.2⟩
theorem lsTo_at {bl:List Bool}{k:Nat}(h:bgt bl k=true):∀{K:Nat},k<K→(lsTo bl K)[(lsTo bl k).length]?=some (k:Int)
 | K+1,hk=>by
  rcases(show k<K∨k=K by omega)with h1|rfl
  ·have ih:=lsTo_at h h1
   have hlt:=(List.getElem?_eq_some_iff.1 ih).1
   rw[lsTo_succ]
   split
   ·rw[List.getElem?_append_left hlt];exact ih
   ·exact ih
  ·rw[lsTo_succ,if_pos h,List.getElem?_append_right (Nat.le_refl _),Nat.sub_self]
   rfl
theorem mc_old {m:MeQ}{L:List EdD}{bl:List Bool}{a:Int}(h:0≤a∧a<m.pts.length):mc (bisL m L bl) a=mc m a:=by
 show pix (m.pts++_) a.toNat=pix m.pts a.toNat
 unfold pix
 rw[List.getD_eq_getElem?_getD,List.getD_eq_getElem?_getD,List.getElem?_append_left (by omega)]
theorem mdP_of {m:MeQ}{L:List EdD}{a b:Int}(h:fndE (newE a b) L=true):mdP m L ((posE (newE a b) L:Nat):Int)=midQ (mc m a) (mc m b):=by
 unfold fndE at h
 rw[Bool.and_eq_true,decide_eq_true_iff,decide_eq_true_iff]at h
 obtain⟨e1,e2⟩:=cmpE_zero.1 h.2
 unfold mdP
 rw[Int.toNat_natCast,e1,e2]
 show midQ (mc m (min a b)) (mc m (max a b))=_
 by_cases hab:a≤b
 ·rw[Int.min_eq_left hab,Int.max_eq_right hab]
 ·rw[Int.min_eq_right (by omega),Int.max_eq_left (by omega),midQ_comm]
theorem midF_ok {m:MeQ}{L:List EdD}{bl:List Bool}{a b:Int}(ha:0≤a∧a<m.pts.length) (hb:0≤b∧b<m.pts.length) (h:0≤midF L (mdTo bl m.pts.length L.length) a b) :
  midF L (mdTo bl m.pts.length L.length) a b<((bisL m L bl).pts.length:Nat)∧mc (bisL m L bl) (midF L (mdTo bl m.pts.length L.length) a b)=midQ (mc (bisL m L bl) a) (mc (bisL m L bl) b):=by
 unfold midF at h ⊢
 by_cases hf:fndE (newE a b) L=true
 ·rw[if_pos hf]at h ⊢
  have hk:=fndE_lt hf
  have hmd:=mdP_of (m:=m) hf
  obtain⟨k,hke⟩:∃k,posE (newE a b) L=k:=⟨_,rfl⟩
  rw[hke]at h hk hmd ⊢
  rw[ix_mdTo hk]at h ⊢
  by_cases hb1:bgt bl k=true
  ·rw[if_pos hb1]at h ⊢
   have h1:=lsTo_at hb1 hk
   have hlt:=(List.getElem?_eq_some_iff.1 h1).1
   rw[mc_old ha,mc_old hb,←hmd]
   constructor
   ·show _<((bpTo m L bl L.length).length:Int)
    rw[bpTo_len]
    omega
   ·show pix (m.pts++(lsTo bl L.length).map (mdP m L)) _=_
    unfold pix
    rw[Int.toNat_natCast,List.getD_eq_getElem?_getD,List.getElem?_append_right (by omega),Nat.add_sub_cancel_left,List.getElem?_map,h1]
    rfl
  ·rw[if_neg hb1]at h
   omega
 ·rw[if_neg hf]at h
  omega
structure PcOk (x:MeQ) (t s:TriD) (d:Int):Prop where
 ix:TrIx x.pts.length s
 reg:s.region=t.region
 lev:s.level=t.level+d
 pos:0<crQ (mc x s.a) (mc x s.b) (mc x s.c)
theorem PcOk.half {x:MeQ}{t s:TriD}{d:Int}(h:PcOk x t s d) {M:Int}(h0:0≤M) (h1:M<x.pts.length∧mc x M=midQ (mc x s.b) (mc x s.c)):PcOk x t (hvA s M) (d+1)∧PcOk x t (hvB s M) (d+1):=by
 obtain⟨h1,e⟩:=h1
 obtain⟨⟨a,b,c⟩,r,l,p⟩:=h
 refine⟨⟨⟨⟨h0,h1⟩,a,b⟩,r,?_,?_⟩,⟨⟨h0,h1⟩,c,a⟩,r,?_,?_⟩
 ·show s.level+1=_
  omega
 ·show 0<crQ (mc x M) (mc x s.a) (mc x s.b)
  rw[e,crQ_A]
  exact half_pos p
 ·show s.level+1=_
  omega
 ·show 0<crQ (mc x M) (mc x s.c) (mc x s.a)
  rw[e,crQ_B]
  exact half_pos p
theorem bs_pc {x:MeQ}{n:Nat}{mid:Int→Int→Int}{t:TriD}(hm:∀a b:Int,(0≤a∧a<n)→(0≤b∧b<n)→0≤mid a b→mid a b<x.pts.length∧mc x (mid a b)=midQ (mc x a) (mc x b)) (ht:TrIx n t) (h:PcOk x t t 0) :
  ∀s∈bsT mid 2 t,∃d,(0≤d∧d≤2)∧PcOk x t s d:=by
 obtain⟨ha,hb,hc⟩:=ht
 intro s hs
 unfold bsT at hs
 split at hs
 ·rw[List.mem_singleton]at hs
  subst hs
  exact⟨0,by omega,h⟩
 ·rename_i h0
  obtain⟨pA,pB⟩:=h.half (M:=mid t.b t.c) (by omega) (hm t.b t.c hb hc (by omega))
  rcases List.mem_append.1 hs with hs|hs
  ·unfold bsT at hs
   split at hs
   ·rw[List.mem_singleton]at hs
    subst hs
    exact⟨_,by omega,pA⟩
   ·rename_i h2
    have h2:¬mid t.a t.b<0:=h2
    obtain⟨qA,qB⟩:=pA.half (M:=mid t.a t.b) (by omega) (hm t.a t.b ha hb (by omega))
    unfold bsT at hs
    rcases List.mem_append.1 hs with hs|hs
    ·rw[List.mem_singleton]at hs
     subst hs
     exact⟨_,by omega,qA⟩
    ·rw[List.mem_singleton]at hs
     subst hs
     exact⟨_,by omega,qB⟩
  ·unfold bsT at hs
   split at hs
   ·rw[List.mem_singleton]at hs
    subst hs
    exact⟨_,by omega,pB⟩
   ·rename_i h2
    have h2:¬mid t.c t.a<0:=h2
    obtain⟨qA,qB⟩:=pB.half (M:=mid t.c t.a) (by omega) (hm t.c t.a hc ha (by omega))
    unfold bsT at hs
    rcases List.mem_append.1 hs with hs|hs
    ·rw[List.mem_singleton]at hs
     subst hs
     exact⟨_,by omega,qA⟩
    ·rw[List.mem_singleton]at hs
     subst hs
     exact⟨_,by omega,qB⟩
theorem bisL_pc {m:MeQ}(h:MeshOk m) (bl:List Bool) {k:Nat}(hk:k<(bisL m (edL m.tris) bl).tris.length) :
  ∃j d,j<m.tris.length∧(0≤d∧d≤2)∧PcOk (bisL m (edL m.tris) bl) (pix m.tris j) (pix (bisL m (edL m.tris) bl).tris k) d:=by
 have hin:=pix_in hk
 obtain⟨s,hs⟩:∃s,pix (bisL m (edL m.tris) bl).tris k=s:=⟨_,rfl⟩
 rw[hs]at hin ⊢
 have hin:s∈(List.range m.tris.length).flatMap fun i=>bsT (midF (edL m.tris) (mdTo bl m.pts.length (edL m.tris).length)) 2 (pix m.tris i):=hin
 obtain⟨j,hj,hsj⟩:=List.mem_flatMap.1 hin
 have hj:=List.mem_range.1 hj
 have htx:=h.ixs j hj
 obtain⟨ha,hb,hc⟩:=htx
 have hlen:(m.pts.length:Int)≤((bisL m (edL m.tris) bl).pts.length:Nat):=by
  show _≤((bpTo m (edL m.tris) bl (edL m.tris).length).length:Int)
  rw[bpTo_len]
  omega
 obtain⟨d,hd,hp⟩:=bs_pc (x:=bisL m (edL m.tris) bl) (fun a b ha hb h0=> midF_ok ha hb h0) (h.ixs j hj) ⟨⟨⟨ha.1,by omega⟩,⟨hb.1,by omega⟩,hc.1,by omega⟩,rfl,by omega,by
  rw[mc_old ha,mc_old hb,mc_old hc]
  exact(trn_cr (by have:=h.n3;omega) ha hb hc).1 (h.pos j hj)⟩ s hsj
 exact⟨j,d,hj,hd,hp⟩
theorem ClOk.pre {m:MeQ}(h:ClOk m) {bl:List Bool}(hl:bl.length=(edL m.tris).length):MeshPre (bisL m (edL m.tris) bl):=by
 have hlen:(bisL m (edL m.tris) bl).pts.length=m.pts.length+(lsTo bl (edL m.tris).length).length:=bpTo_len _ _ _ _
 have h1:=lsTo_len bl (edL m.tris).length
 have h2:=btTo_len m.tris (midF (edL m.tris) (mdTo bl m.pts.length (edL m.tris).length)) m.tris.length
 have h3:=btTo_pos m.tris (midF (edL m.tris) (mdTo bl m.pts.length (edL m.tris).length)) m.tris.length
 have h4:=h.fit.ok.n3
 have h5:=h.fit.ok.t1
 have h6:=h.n40
 have h7:=h.t48
 have hsub:=bp_sub m bl
 have hpl:PlOk (bisL m (edL m.tris) bl).pts:=pl_of fun k hk=>h.sm _ (hsub.subset (pix_in hk))
 have hn:=List.Pairwise.sublist hsub (show List.Pairwise (·≠·) (allP m)from h.nod)
 refine⟨by omega,by omega,?_,?_,fun k hk j hj=>?_,hpl,fun k hk=>?_,fun k hk=>?_,fun k hk=>?_⟩
 ·show 1≤(btTo _ _ _).length
  omega
 ·show (btTo _ _ _).length≤48
  omega
 ·have hk:k<(bpTo m (edL m.tris) bl (edL m.tris).length).length:=hk
  have hjk:j<(bpTo m (edL m.tris) bl (edL m.tris).length).length:=by omega
  have h8:=List.pairwise_iff_getElem.1 hn j k hjk hk hj
  show pix (bpTo m (edL m.tris) bl (edL m.tris).length) k≠pix (bpTo m (edL m.tris) bl (edL m.tris).length) j
  unfold pix
  rw[List.getD_eq_getElem?_getD,List.getD_eq_getElem?_getD,List.getElem?_eq_getElem hk,List.getElem?_eq_getElem hjk]
  exact fun e=>h8 e.symm
 ·obtain⟨j,d,hj,hd,hp⟩:=bisL_pc h.fit.ok bl hk
  exact hp.ix
 ·obtain⟨j,d,hj,hd,hp⟩:=bisL_pc h.fit.ok bl hk
  have h8:=h.fit.ok.reg j hj
  have h9:=h.lev j hj
  rw[hp.reg,hp.lev]
  exact⟨h8.1,by omega,by omega⟩
 ·obtain⟨j,d,hj,hd,hp⟩:=bisL_pc h.fit.ok bl hk
  obtain⟨ha,hb,hc⟩:=hp.ix
  exact(trn_cr (by omega) ha hb hc).2 hp.pos
end
section
open Go.RowKit
def hasP (t:TriD) (p:Int):Bool:=decide (t.a=p)||(decide (t.b=p)||decide (t.c=p))
def atTo (ts:List TriD) (p:Int) (k:Nat):List Int:=((List.range k).filter fun i=>hasP (pix ts i) p).map fun i:Nat=>(i:Int)
def atA (ts:List TriD) (p:Int):List Int:=atTo ts p ts.length
def prT (s t:TriD):TriD:=⟨s.b,s.c,t.b,s.region,s.level-1⟩
def prB (m:MeQ) (k l:Int):Bool :=
 decide (l = k + 1) && (decide (0 < (pix m.tris k.toNat).level) && (decide (hvA (prT (pix m.tris k.toNat) (pix m.tris l.toNat)) (pix m.tris k.toNat).a = pix m.tris k.toNat) && (decide (hvB (prT (pix m.tris k.toNat) (pix m.tris l.toNat)) (pix m.tris k.toNat).a = pix m.tris l.toNat) &&
  decide (midQ (mc m (pix m.tris k.toNat).c) (mc m (pix m.tris l.toNat).b)=mc m (pix m.tris k.toNat).a))))
def prsB (m:MeQ) (l:List Int):Nat→Bool
 | 0=>true
 | k+1=>prsB m l k&&prB m (ix l (2*k)) (ix l (2*k+1))
def remB (m:MeQ) (p:Int):Bool :=
 (decide ((atA m.tris p).length=2)||decide ((atA m.tris p).length=4))&&(((atA m.tris p).all fun k=>decide ((pix m.tris k.toNat).a=p))&&prsB m (atA m.tris p) ((atA m.tris p).length / 2))
def lwI (i p:Int):Int:=if p<i then i-1 else i
def lwT (t:TriD) (p:Int):TriD:=⟨lwI t.a p,lwI t.b p,lwI t.c p,t.region,t.level⟩
def rvS (ts:List TriD) (p:Int) (k:Nat):List TriD × Bool→List TriD × Bool
 | (o,f)=>if (pix ts k).a=p then (if f=true then (o++[lwT (prT (pix ts k) (pix ts (k+1))) p],false)else (o,true))else (o++[lwT (pix ts k) p],f)
def rvTo (ts:List TriD) (p:Int):Nat→List TriD × Bool
 | 0=>([],true)
 | k+1=>rvS ts p k (rvTo ts p k)
def rmM (m:MeQ) (p:Int):MeQ:=⟨m.pts.eraseIdx p.toNat,(rvTo m.tris p m.tris.length).1⟩
def rvC (m:MeQ) (p:Int):Bool:=(List.range m.tris.length).all fun k=>!(decide ((pix m.tris k).a=p)&&(rvTo m.tris p k).2)||decide (k+1<m.tris.length)
def crS (x:MeQ × Nat) (p:Int):MeQ × Nat:=if remB x.1 p=true then (rmM x.1 p,x.2+1)else x
def okS (m:MeQ) (p:Int):Bool:=(decide (0≤p)&&decide (p<m.pts.length))&&(!remB m p||(okF (rmM m p)&&rvC m p))
def crC:MeQ × Nat→List Int→Bool
 | _,[]=>true
 | x,p::ps=>okS x.1 p&&crC (crS x p) ps
def crL (m:MeQ) (l:List Int):List Int:=(lsA (mkA l m.pts.length)).reverse
def crA (m:MeQ) (l:List Int):MeQ × Nat:=(crL m l).foldl crS (m,0)
end
end Go.Proofs.YtmkcacgmnnlddaaGreat
