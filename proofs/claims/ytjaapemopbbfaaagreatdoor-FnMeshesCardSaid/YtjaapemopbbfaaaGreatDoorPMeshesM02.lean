import Derived.Lib.ItoaNum
import Derived.Test.YtjaapemopbbfaaaGreatDoorPMeshesM01
import Derived.Lib.Strings
import Derived.Laws.BytesArg
import Derived.Laws.Concat
namespace Go.Proofs.YtjaapemopbbfaaaGreatDoor
open Go.RowKit
set_option maxRecDepth 100000
set_option maxHeartbeats 1600000
def dgb (k:Nat):UInt8:=UInt8.ofNat (48+k)
def Z0 (b:UInt8):Bool:=decide (48<=b.toNat)&&decide (b.toNat<=57)
def yH (l:List UInt8):Bool:=!l.isEmpty&&l.all Z0
def vD (l:List UInt8):Nat:=l.foldl (λa b=>10*a+(b.toNat-48)) 0
def dD (n:Nat):List UInt8:=Lib.decDigits n
theorem zG {n:Nat}(h:n<10):dD n=[dgb n]:=by unfold dD;rw[Lib.decDigits,dif_pos h];rfl
theorem QG {n:Nat}(h:¬n<10):dD n=dD (n / 10)++[dgb (n % 10)]:=by unfold dD;rw[Lib.decDigits,dif_neg h];rfl
theorem ZZ {k:Nat}(h:k<10):(dgb k).toNat=48+k:=by unfold dgb;rw[UInt8.toNat_ofNat'];omega
theorem VF {k:Nat}(h:k<10):Z0 (dgb k)=true:=by unfold Z0;rw[ZZ h];simp;omega
theorem qdG {b:UInt8}(h:Z0 b=true):dgb (b.toNat-48)=b/\b.toNat-48<10:=by
 unfold Z0 at h
 simp at h
 refine⟨?_,by omega⟩
 unfold dgb
 rw[show 48+(b.toNat-48)=b.toNat by omega]
 simp
theorem Vo {p:List UInt8->Prop}(h0:p []) (h1:∀l b,p l->p (l++[b])) (l:List UInt8):p l:=by
 suffices ∀l:List UInt8,p l.reverse by have:=this l.reverse;rwa [List.reverse_reverse]at this
 intro l
 induction l with
 | nil=>exact h0
 | cons a t ih=>rw[List.reverse_cons];exact h1 _ _ ih
theorem Zh (l:List UInt8) (b:UInt8):vD (l++[b])=10*vD l+(b.toNat-48):=by simp[vD]
theorem V9:vD []=0:=rfl
theorem kL (n:Nat):dD n≠[]:=by
 by_cases h:n<10
 ·rw[zG h];simp
 ·rw[QG h];simp
theorem qaL (n:Nat):vD (dD n)=n:=by
 induction n using Nat.strongRecOn with
 | ind n ih=>
  by_cases h:n<10
  ·rw[zG h,show [dgb n]=[]++[dgb n]from rfl,Zh,V9,ZZ h];omega
  ·rw[QG h,Zh,ih _ (by omega),ZZ (by omega)];omega
theorem qba (n:Nat):(dD n).all Z0=true:=by
 induction n using Nat.strongRecOn with
 | ind n ih=>
  by_cases h:n<10
  ·rw[zG h];simp[VF h]
  ·rw[QG h,List.all_append,ih _ (by omega)];simp[VF (show n % 10<10 by omega)]
theorem uD (n:Nat):yH (dD n)=true:=by
 unfold yH
 rw[qba]
 have:=kL n
 cases h:dD n <;> simp_all
theorem qbV {n:Nat}(h:0<n):(dD n).head?≠some 48:=by
 induction n using Nat.strongRecOn with
 | ind n ih=>
  by_cases hn:n<10
  ·rw[zG hn]
   simp
   intro e
   have:=congrArg UInt8.toNat e
   rw[ZZ hn]at this
   have h2:(48:UInt8).toNat=48:=rfl
   omega
  ·rw[QG hn,List.head?_append]
   have h1:=ih (n / 10) (by omega) (by omega)
   have h2:=kL (n / 10)
   cases h3:dD (n / 10)with
   | nil=>exact absurd h3 h2
   | cons a t=>rw[h3]at h1;simpa using h1
theorem qdL {n:Nat}:(dD n).length=1↔n<10:=by
 constructor
 ·intro h
  by_cases hn:n<10
  ·exact hn
  ·rw[QG hn,List.length_append]at h
   have:=kL (n / 10)
   have h3:0<(dD (n / 10)).length:=List.length_pos_iff.2 this
   rw[List.length_singleton]at h
   omega
 ·intro h;rw[zG h];rfl
theorem ZT:∀{k n:Nat},0<k->n<10 ^ k->(dD n).length<=k
 | 0,_,h,_=>by omega
 | k+1,n,_,h=>by
  by_cases hn:n<10
  ·rw[zG hn];simp
  ·rw[QG hn,List.length_append]
   have h0:0 < k:=by
    rcases k with _|k
    ·simp at h;omega
    ·omega
   have:=ZT (k:=k) (n:=n / 10) h0 (by rw[Nat.pow_succ]at h;omega)
   simp
   omega
theorem qdr:∀(l:List UInt8),l.all Z0=true->vD l<10 ^ l.length:=by
 intro l
 induction l using Vo with
 | h0=>intro _;simp[vD]
 | h1 l b ih=>
  intro h
  rw[List.all_append]at h
  simp at h
  have h1:=ih (by simpa using h.1)
  have h2:=(qdG h.2).2
  rw[Zh,List.length_append,List.length_singleton,Nat.pow_succ]
  omega
theorem qdd:∀(l:List UInt8),yH l=true->(l.length=1\/l.head?≠some 48)->dD (vD l)=l:=by
 intro l
 induction l using Vo with
 | h0=>intro h;simp[yH]at h
 | h1 l b ih=>
  intro h hz
  unfold yH at h
  simp[List.all_append]at h
  obtain⟨e,hlt⟩:=qdG h.2
  rw[Zh]
  by_cases hl:l=[]
  ·subst hl
   simp only[V9,Nat.mul_zero,Nat.zero_add,List.nil_append]
   rw[zG hlt,e]
  ·have hz':l.head?≠some 48:=by
    rcases hz with hz|hz
    ·simp at hz;exact absurd hz hl
    ·cases l with
     | nil=>exact absurd rfl hl
     | cons a t=>simpa using hz
   have h1:=ih (by unfold yH;simp[hl];exact h.1) (.inr hz')
   have h0:vD l≠0:=by
    intro h0
    rw[h0,zG (by omega)]at h1
    rw[<-h1]at hz'
    exact hz' rfl
   rw[QG (by omega),show (10*vD l+(b.toNat-48)) / 10=vD l by omega,show (10*vD l+(b.toNat-48)) % 10=b.toNat-48 by omega,h1,e]
theorem kn (l:List UInt8) (h:yH l=true):dD (vD l)=l↔(l.length=1\/l.head?≠some 48):=by
 refine⟨λe=>?_,qdd l h⟩
 by_cases h0:0<vD l
 ·have:=qbV h0
  rw[e]at this
  exact .inr this
 ·have h1:(dD (vD l)).length=1:=qdL.2 (by omega)
  rw[e]at h1
  exact .inl h1
def Xi (l:List UInt8) (n:Nat):List UInt8:=List.replicate (n-l.length) 48++l
theorem V1 (l:List UInt8) (b:UInt8) (n:Nat):Xi (l++[b]) (n+1)=Xi l n++[b]:=by
 unfold Xi
 rw[List.length_append,List.length_singleton,show n+1-(l.length+1)=n-l.length by omega,List.append_assoc]
def qaU (k r:Nat):List UInt8:=match k with|0=>[] | k+1=>qaU k (r / 10)++[dgb (r % 10)]
theorem V8:∀k,qaU k 0=List.replicate k 48
 | 0=>rfl
 | k+1=>by rw[qaU,Nat.zero_div,V8 k,List.replicate_succ'];rfl
theorem qb7:∀(k r:Nat),r<10 ^ (k+1)->Xi (dD r) (k+1)=qaU (k+1) r:=by
 intro k
 induction k with
 | zero=>
  intro r h
  rw[zG (by simpa using h)]
  simp[Xi,qaU]
  rw[Nat.mod_eq_of_lt (by simpa using h)]
 | succ k ih=>
  intro r h
  by_cases hr:r<10
  ·rw[zG hr,show ([dgb r]:List UInt8)=[]++[dgb r]from rfl,V1,qaU,show r / 10=0 by omega,V8,show r % 10=r by omega]
   simp[Xi]
  ·rw[QG hr,V1,ih (r / 10) (by rw[Nat.pow_succ]at h;omega)];rfl
theorem kv:∀(k q r:Nat),0<q->r<10 ^ k->dD (q*10 ^ k+r)=dD q++qaU k r
 | 0,q,r,_,h=>by simp at h;subst h;simp[qaU]
 | k+1,q,r,hq,h=>by
  have h10:q*10 ^ (k+1)=(q*10 ^ k)*10:=by rw[Nat.pow_succ,Nat.mul_assoc]
  have hp:0<10 ^ k:=Nat.pow_pos (by decide)
  have hq1:1<=q*10 ^ k:=Nat.mul_pos hq hp
  rw[QG (by omega),show (q*10 ^ (k+1)+r) / 10=q*10 ^ k+r / 10 by omega,show (q*10 ^ (k+1)+r) % 10=r % 10 by omega,kv k q (r / 10) hq (by rw[Nat.pow_succ]at h;omega),qaU,List.append_assoc]
def xh:List Nat->List UInt8
 | []=>[]
 | x::xs=>xh xs++Xi (dD x) 9
theorem Uj:∀(l:List Nat) (t:Nat),jL l->0<t->dD (val l+t*Bs ^ l.length)=dD t++xh l
 | [],t,_,_=>by simp[val,xh]
 | x::xs,t,h,ht=>by
  have hx:x<Bs:=h x (by simp)
  have ih:=Uj xs t (λd hd=>h d (by simp[hd])) ht
  have hpos:0 < val xs+t * Bs ^ xs.length:=by
   have:0<t*Bs ^ xs.length:=Nat.mul_pos ht (Nat.pow_pos zj)
   omega
  have e:val (x :: xs)+t * Bs ^ (x :: xs).length=(val xs+t * Bs ^ xs.length) * 10 ^ 9+x:=by
   rw[val,List.length_cons,Nat.pow_succ,show (10:Nat) ^ 9=Bs from rfl,Nat.add_mul,Nat.mul_comm Bs (val xs),Nat.mul_assoc]
   omega
  rw[e,kv 9 _ _ hpos (by rw[show (10:Nat) ^ 9=Bs from rfl];exact hx),ih,xh,List.append_assoc,qb7 8 x (by rw[show (10:Nat) ^ (8+1)=Bs from rfl];exact hx)]
theorem qcS {N:Nat}(h:0<N):dD N=dD (dx (dig N) ((dig N).length-1))++xh ((dig N).take ((dig N).length-1)):=by
 have hl:0<(dig N).length:=ql.2 h
 have hne:dig N≠[]:=by intro e;rw[e]at hl;cases hl
 have ht:=QV (jI N) hne
 have e:=ZP (dig N) ((dig N).length-1)
 rw[show (dig N).length-1+1=(dig N).length by omega,List.take_length,qB]at e
 have hlen:((dig N).take ((dig N).length-1)).length=(dig N).length-1:=by simp
 have:=Uj ((dig N).take ((dig N).length-1)) (dx (dig N) ((dig N).length-1)) (YH (qs N) _) (Nat.pos_of_ne_zero ht)
 rw[hlen,<-e]at this
 exact this
/-! ### Cutting -/
def zH (c:UInt8) (l:List UInt8):List UInt8:=l.takeWhile (· != c)
def yT (c:UInt8) (l:List UInt8):List UInt8:=(l.dropWhile (· != c)).drop 1
theorem JT {c:UInt8}:∀{l:List UInt8},c∉l->zH c l=l/\yT c l=[]
 | [],_=>⟨rfl,rfl⟩
 | b::t,h=>by
  simp only[List.mem_cons,not_or]at h
  have hb:(b != c)=true:=by simp only[bne_iff_ne,ne_eq];exact λe=>h.1 e.symm
  have ih:=JT h.2
  unfold zH yT at ih ⊢
  rw[List.takeWhile_cons,List.dropWhile_cons,if_pos hb,if_pos hb]
  exact⟨by rw[ih.1],ih.2⟩
theorem Ye {c:UInt8}:∀{a b:List UInt8},c∉a->zH c (a++c::b)=a/\yT c (a++c::b)=b
 | [],b,_=>by simp[zH,yT]
 | x::t,b,h=>by
  simp only[List.mem_cons,not_or]at h
  have hb:(x != c)=true:=by simp only[bne_iff_ne,ne_eq];exact λe=>h.1 e.symm
  have ih:=Ye (b:=b) h.2
  unfold zH yT at ih ⊢
  rw[List.cons_append,List.takeWhile_cons,List.dropWhile_cons,if_pos hb,if_pos hb]
  exact⟨by rw[ih.1],ih.2⟩
theorem JW {c:UInt8}:∀{l:List UInt8},c∈l->l=zH c l++c::yT c l
 | [],h=>by cases h
 | x::t,h=>by
  by_cases hx:x=c
  ·subst hx;simp[zH,yT]
  ·have hb:(x != c)=true:=by simpa using hx
   have ih := JW (l := t) (c := c) (by
    rcases List.mem_cons.1 h with e|e
    ·exact absurd e.symm hx
    ·exact e)
   unfold zH yT at ih ⊢
   rw[List.takeWhile_cons,List.dropWhile_cons,if_pos hb,if_pos hb,List.cons_append,<-ih]
theorem uS {c:UInt8}{l:List UInt8}(h:c∈l):(yT c l).length<l.length:=by
 have:=congrArg List.length (JW h)
 rw[List.length_append,List.length_cons]at this
 omega
def pcs (c:UInt8) (l:List UInt8):List (List UInt8):=if _h:c∈l then zH c l::pcs c (yT c l)else [l]
termination_by l.length
decreasing_by exact uS ‹_›
theorem vL {c:UInt8}{l:List UInt8}(h:c∉l):pcs c l=[l]:=by rw[pcs,dif_neg h]
theorem kq {c:UInt8}{l:List UInt8}(h:c∈l):pcs c l=zH c l::pcs c (yT c l):=by rw[pcs,dif_pos h]
theorem VM {c:UInt8}{a b:List UInt8}(h:c∉a):pcs c (a++c::b)=a::pcs c b:=by
 rw[kq (by simp),(Ye h).1,(Ye h).2]
/-! ### Natural numbers -/
def NTx (l:List UInt8) (N:Nat):Prop:=dD N=l/\l.length<=540
def Q4 (l:List UInt8):Bool:=yH l&&decide (l.length<=540)&&(decide (l.length=1)||decide (l.head?≠some 48))
theorem ZA {l:List UInt8}:Q4 l=true↔NTx l (vD l):=by
 unfold Q4 NTx
 constructor
 ·intro h
  simp only[Bool.and_eq_true,Bool.or_eq_true,decide_eq_true_eq]at h
  exact⟨qdd l h.1.1 h.2,h.1.2⟩
 ·rintro ⟨h1,h2⟩
  have h3:yH l=true:=by rw[<-h1];exact uD _
  simp only[Bool.and_eq_true,Bool.or_eq_true,decide_eq_true_eq]
  exact⟨⟨h3,h2⟩,(kn l h3).1 h1⟩
theorem NTx.val {l:List UInt8}{N:Nat}(h:NTx l N):vD l=N:=by rw[<-h.1,qaL]
theorem NTx.good {l:List UInt8}{N:Nat}(h:NTx l N):Q4 l=true:=ZA.2 (by rw[h.val];exact h)
theorem kS {l:List UInt8}(h:yH l=true) {c:UInt8}(hc:Z0 c=false):c∉l:=by
 intro hm
 unfold yH at h
 simp only[Bool.and_eq_true,List.all_eq_true]at h
 rw[h.2 c hm]at hc
 cases hc
theorem xM (N:Nat) {c:UInt8}(hc:Z0 c=false):c∉dD N:=kS (uD N) hc
/-! ### Integers -/
def itx (x:Int):List UInt8:=if x<0 then 45::dD x.natAbs else dD x.natAbs
theorem XS (x:Int) {c:UInt8}(hc:Z0 c=false) (h45:c≠45):c∉itx x:=by
 unfold itx
 split
 ·simp only[List.mem_cons,not_or];exact⟨h45,xM _ hc⟩
 ·exact xM _ hc
theorem ky (N:Nat):(dD N).head?≠some 45:=by
 intro h
 have:(45:UInt8) ∈ dD N:=by
  cases hd:dD N with
  | nil=>rw[hd]at h;cases h
  | cons a t=>rw[hd]at h;simp at h;rw[h];simp
 exact xM N (by rfl) this
theorem ZG {x:Int}:(itx x).head?=some 45↔x<0:=by
 unfold itx
 by_cases h:x<0
 ·simp[h]
 ·rw[if_neg h]
  exact⟨λe=>absurd e (ky _),λe=>absurd e h⟩
def mag (l:List UInt8):List UInt8:=if l.head?=some 45 then l.drop 1 else l
theorem uj (x:Int):mag (itx x)=dD x.natAbs:=by
 unfold mag
 by_cases h:x<0
 ·rw[if_pos (ZG.2 h)];unfold itx;rw[if_pos h];rfl
 ·rw[if_neg (λe=>h (ZG.1 e))];unfold itx;rw[if_neg h]
def yQ (l:List UInt8):Bool:=Q4 (mag l)&&(decide (l.head?≠some 45)||decide (vD (mag l)≠0))
def vI (l:List UInt8):Int:=if l.head?=some 45 then -(vD (mag l):Int)else (vD (mag l):Int)
theorem vM (l:List UInt8):(vI l).natAbs=vD (mag l):=by unfold vI;split <;> simp
theorem Kl {l:List UInt8}:yQ l=true↔itx (vI l)=l/\(mag l).length<=540:=by
 unfold yQ
 simp only[Bool.and_eq_true,Bool.or_eq_true,decide_eq_true_eq]
 rw[ZA]
 by_cases h:l.head?=some 45
 ·have hl:l=45 :: mag l:=by
   unfold mag;rw[if_pos h]
   cases l with
   | nil=>cases h
   | cons a t=>simp at h;rw[h];rfl
  constructor
  ·rintro ⟨⟨h1,h2⟩,h3|h3⟩
   ·exact absurd h h3
   ·have e:vI l<0:=by unfold vI;rw[if_pos h];omega
    refine⟨?_,h2⟩
    unfold itx;rw[if_pos e,vM,h1,<-hl]
  ·rintro ⟨h1,h2⟩
   have hx:vI l<0:=by rw[<-ZG,h1];exact h
   have h3:=vM l
   refine⟨⟨?_,h2⟩,.inr (by omega)⟩
   have:=congrArg mag h1
   rw[uj,vM]at this
   exact this
 ·have hm:mag l=l:=by unfold mag;rw[if_neg h]
  have hv:vI l=(vD l:Int):=by unfold vI;rw[if_neg h,hm]
  rw[hm,hv]
  have e:itx (vD l:Int)=dD (vD l):=by unfold itx;rw[if_neg (by omega)];simp
  rw[e]
  exact⟨λhh=>hh.1,λhh=>⟨hh,.inl h⟩⟩
theorem km (x:Int):vI (itx x)=x:=by
 unfold vI
 rw[uj,qaL]
 by_cases h:x<0
 ·rw[if_pos (ZG.2 h)];omega
 ·rw[if_neg (λe=>h (ZG.1 e))];omega
theorem K1 {x:Int}(h:(dD x.natAbs).length<=540):yQ (itx x)=true:=Kl.2 ⟨by rw[km],by rw[uj];exact h⟩
/-! ### Fractions -/
def ftx (x:Int) (D:Nat):List UInt8:=if D=1 then itx x else itx x++47::dD D
theorem Xs (x:Int) (D:Nat) {c:UInt8}(hc:Z0 c=false) (h45:c≠45) (h47:c≠47):c∉ftx x D:=by
 unfold ftx
 split
 ·exact XS x hc h45
 ·simp only[List.mem_append,List.mem_cons,not_or]
  exact⟨XS x hc h45,h47,xM _ hc⟩
theorem V7 (x:Int):(47:UInt8)∉itx x:=XS x rfl (by decide)
theorem kC {x:Int}{D:Nat}:47∈ftx x D↔D≠1:=by
 unfold ftx
 by_cases h:D=1
 ·rw[if_pos h];exact⟨λe=>absurd e (V7 x),λe=>absurd h e⟩
 ·rw[if_neg h];simp[h]
theorem qbF {x:Int}{D:Nat}(h:47∉ftx x D):D=1/\ftx x D=itx x:=by
 have h1:D=1:=Classical.byContradiction λe=>h (kC.2 e)
 exact⟨h1,by unfold ftx;rw[if_pos h1]⟩
theorem X0 {x:Int}{D:Nat}(h:47∈ftx x D):zH 47 (ftx x D)=itx x/\yT 47 (ftx x D)=dD D:=by
 unfold ftx
 rw[if_neg (kC.1 h)]
 exact Ye (V7 x)
def X8 (l:List UInt8):List UInt8:=if 47∈l then yT 47 l else [49]
theorem qeP:dD 1=[49]:=by rw[zG (by omega)];rfl
theorem xP (x:Int) (D:Nat):zH 47 (ftx x D)=itx x/\X8 (ftx x D)=dD D:=by
 by_cases h:47∈ftx x D
 ·refine⟨(X0 h).1,?_⟩
  unfold X8;rw[if_pos h];exact(X0 h).2
 ·obtain⟨h1,h2⟩:=qbF h
  refine⟨by rw[(JT h).1,h2],?_⟩
  unfold X8;rw[if_neg h,h1,qeP]
theorem kH {x:Int}{D:Nat}{l:List UInt8}(h:ftx x D=l) (h1:47∈l):47∉yT 47 l:=by
 subst h
 rw[(X0 h1).2]
 exact xM D rfl
abbrev bl (s:ByteArray):List UInt8:=s.data.toList
def sb (l:List UInt8):ByteArray:=⟨l.toArray⟩
theorem X7 (l:List UInt8):bl (sb l)=l:=rfl
theorem qdB (s:ByteArray):sb (bl s)=s:=Lib.mk_data s
theorem zZ (s:ByteArray):(bl s).length=s.size:=(Lib.size_eq s).symm
theorem zt (l:List UInt8):(sb l).size=l.length:=by rw[Lib.size_eq];rfl
theorem qbs {s t:ByteArray}(h:bl s=bl t):s=t:=by rw[<-qdB s,h,qdB]
theorem qcV (s:ByteArray) (i:Nat) (h:i<s.size):(bl s)[i]'(by rw[zZ];exact h)=s[i]:=by
 obtain⟨⟨l⟩⟩:=s
 rfl
def bt (s:ByteArray) (i:Nat):UInt8:=(bl s).getD i 0
theorem qeB (s:ByteArray) (i:Nat) (h:i<s.size):s[i]=bt s i:=by
 unfold bt
 rw[List.getD_eq_getElem?_getD,List.getElem?_eq_getElem (by rw[zZ];exact h),<-qcV s i h]
 rfl
theorem yl (s:ByteArray):s.toList=bl s:=ByteArray.toList_eq s
theorem Yh (s:ByteArray):yH (bl s)=true↔0<s.size/\∀i,i<s.size->Z0 (bt s i)=true:=by
 unfold yH
 rw[<-zZ]
 simp only[Bool.and_eq_true,List.all_eq_true]
 constructor
 ·rintro ⟨h1,h2⟩
  refine⟨?_,λi hi=>?_⟩
  ·cases h:bl s with
   | nil=>rw[h]at h1;simp at h1
   | cons a t=>simp
  ·unfold bt
   rw[List.getD_eq_getElem?_getD,List.getElem?_eq_getElem hi]
   exact h2 _ (List.getElem_mem hi)
 ·rintro ⟨h1,h2⟩
  refine⟨?_,λx hx=>?_⟩
  ·cases h:bl s with
   | nil=>rw[h]at h1;simp at h1
   | cons a t=>simp
  ·obtain⟨i,hi,rfl⟩:=List.getElem_of_mem hx
   have:=h2 i hi
   unfold bt at this
   rw[List.getD_eq_getElem?_getD,List.getElem?_eq_getElem hi]at this
   exact this
theorem qbv (x:UInt8):Z0 x=(decide ((48:Int)<=(x.toNat:Int))&&decide ((x.toNat:Int)<=57)):=by
 unfold Z0
 congr 1 <;> exact decide_eq_decide.2 (by omega)
theorem kz {P:Program}{t:TypeId}(w:World) (s:ByteArray) (i:Nat) (h:i<s.size) (ht:P.underlying t=some .string):(Instr.index t (.string s) (.int .i64 (i:Int))).run P w=.ok (.int .u8 ((bt s i).toNat:Int)) w:=by
 rw[run_index_string w t s .i64 (i:Int) ht,dif_pos ⟨by omega,by omega⟩]
 have:=qeB s i h
 simp only[Int.toNat_natCast,this]
theorem qdp (a b:List UInt8):sb a++sb b=sb (a++b):=by
 apply qbs
 simp[sb]
theorem jf {P:Program}(w:World) (a b:List UInt8) (ha:a.length<=1050000) (hb:b.length<=1050000):(Op.stringOp .add (sb a) (sb b)).run P w=.ok (.string (sb (a++b))) w:=by
 rw[run_string_add_sum w (sb a) (sb b) (by rw[zt,zt];omega),qdp]
theorem yx {N:Nat}(h:N<=9223372036854775807):(dD N).length<=19:=ZT (by decide) (by omega)
def nv (l:List Int):Nat:=val (l.map Int.toNat)
theorem Y5 (l:List Nat):(qu l).map Int.toNat=l:=by
 unfold qu
 rw[List.map_map]
 have:(Int.toNat ∘ Int.ofNat)=(id:Nat->Nat):=by funext x;rfl
 rw[this,List.map_id]
theorem vZ (N:Nat):nv (qu (dig N))=N:=by
 unfold nv;rw[Y5,qB]
def OkN (l:List Int):Prop:=∃N,l=qu (dig N)/\(dig N).length<=60
theorem OkN.nv {l:List Int}(h:OkN l):l=qu (dig (nv l))/\l.length<=60:=by
 obtain⟨N,rfl,h⟩:=h
 rw[vZ]
 exact⟨rfl,by rw[qg];exact h⟩
theorem Km (l:List Int):OkN l↔l.length<=60/\(l.length=0\/ix l (l.length-1)≠0)/\∀k,k<l.length->0<=ix l k/\ix l k<=999999999:=by
 constructor
 ·rintro ⟨N,rfl,h⟩
  rw[qg]
  refine⟨h,?_,λk hk=>?_⟩
  ·rcases Nat.eq_zero_or_pos (dig N).length with h0|h0
   ·exact .inl h0
   ·right
    have:=QV (jI N) (List.length_pos_iff.1 h0)
    unfold ix
    unfold dx at this
    unfold qu
    rw[List.getD_eq_getElem?_getD]at this
    rw[List.getD_eq_getElem?_getD,List.getElem?_map]
    rw[List.getElem?_eq_getElem (by omega)]at this ⊢
    simp at this ⊢
    omega
  ·have:=qI (qs N) k
   rw[qk]at this
   unfold ix
   unfold dx at this
   unfold qu
   rw[List.getD_eq_getElem?_getD]at this
   rw[List.getD_eq_getElem?_getD,List.getElem?_map]
   rw[List.getElem?_eq_getElem hk]at this ⊢
   simp at this ⊢
   omega
 ·rintro ⟨h1,h2,h3⟩
  have hd:jL (l.map Int.toNat):=by
   refine Uz λk hk=>?_
   rw[List.length_map]at hk
   have:=h3 k hk
   unfold ix at this
   unfold dx
   rw[List.getD_eq_getElem?_getD]at this ⊢
   rw[List.getElem?_map,List.getElem?_eq_getElem hk]
   rw[List.getElem?_eq_getElem hk]at this
   simp at this ⊢
   rw[qk]
   omega
  have hc:vi (l.map Int.toNat):=by
   refine jS hd λe=>?_
   have e0:l.length≠0:=by intro e0;apply e;rw[List.length_eq_zero_iff.1 e0];rfl
   rcases h2 with h2|h2
   ·exact absurd h2 e0
   ·have h4:=(h3 (l.length-1) (by omega)).1
    rw[List.length_map]
    unfold dx
    unfold ix at h2 h4
    rw[List.getD_eq_getElem?_getD]at h2 h4 ⊢
    rw[List.getElem?_map]
    rw[List.getElem?_eq_getElem (by omega)]at h2 h4 ⊢
    simp at h2 h4 ⊢
    omega
  have he:l=qu (l.map Int.toNat):=by
   unfold qu
   rw[List.map_map]
   apply List.ext_getElem (by simp)
   intro i hi _
   have:=h3 i hi
   unfold ix at this
   rw[List.getD_eq_getElem?_getD,List.getElem?_eq_getElem hi]at this
   simp at this ⊢
   omega
  refine⟨val (l.map Int.toNat),?_,?_⟩
  ·rw[Zf hc];exact he
  ·rw[Zf hc,List.length_map];exact h1
def raw (x:Int) (D:Nat):qH:=⟨decide (x<0),qu (dig x.natAbs),qu (dig D)⟩
def zR:qH:=⟨false,[],[]⟩
def qm (x:Int) (D:Nat):qH :=
 if (dig (x.natAbs / Nat.gcd x.natAbs D)).length<=24/\(dig (D / Nat.gcd x.natAbs D)).length<=24 then raw (x / (Nat.gcd x.natAbs D:Int)) (D / Nat.gcd x.natAbs D)else zR
def rn (r:qH):Int:=if r.neg=true then-(nv r.mag:Int)else (nv r.mag:Int)
def rd (r:qH):Nat:=nv r.den
theorem uF (x:Int) (D:Nat):rn (raw x D)=x:=by
 unfold rn raw
 simp only[vZ]
 by_cases h:x<0
 ·simp[h];omega
 ·simp[h];omega
theorem Ub (x:Int) (D:Nat):rd (raw x D)=D:=by unfold rd raw;simp only[vZ]
def OkR (r:qH):Prop:=∃(x:Int) (D:Nat),r=raw x D/\0<D/\Nat.gcd x.natAbs D=1/\(dig x.natAbs).length<=24/\(dig D).length<=24
theorem OkR.get {r:qH}(h:OkR r):r=raw (rn r) (rd r)/\0<rd r/\Nat.gcd (rn r).natAbs (rd r)=1/\(dig (rn r).natAbs).length<=24/\(dig (rd r)).length<=24:=by
 obtain⟨x,D,rfl,h⟩:=h
 rw[uF,Ub]
 exact⟨rfl,h⟩
theorem Kq:¬OkR zR:=by
 rintro ⟨x,D,h,hD,_⟩
 have:(dig D).length=0:=by
  have:=congrArg qH.den h
  simp only[zR,raw]at this
  rw[<-qg,<-this];rfl
 have:=ql.2 hD
 omega
open Classical in
noncomputable def okR (r:qH):Bool:=decide (OkR r)
open Classical in
noncomputable def okN (l:List Int):Bool:=decide (OkN l)
theorem jU {r:qH}:okR r=true↔OkR r:=by unfold okR;simp
theorem Kg {r:qH}:okR r=false↔¬OkR r:=by unfold okR;simp
theorem qaF {r:List Int}:okN r=true↔OkN r:=by unfold okN;simp
theorem kx {r:List Int}:okN r=false↔¬OkN r:=by unfold okN;simp
open Classical in
noncomputable def Z3 (r s:qH):qH:=if OkR r/\OkR s then qm (rn r*rd s+rn s*rd r) (rd r*rd s)else zR
open Classical in
noncomputable def J4 (r s:qH):qH:=if OkR r/\OkR s then qm (rn r*rd s-rn s*rd r) (rd r*rd s)else zR
open Classical in
noncomputable def Zs (r s:qH):qH:=if OkR r/\OkR s then qm (rn r*rn s) (rd r*rd s)else zR
def jF (a b:Int):Int:=if a<b then -1 else if b<a then 1 else 0
open Classical in
noncomputable def JL (r s:qH):Int:=if OkR r/\OkR s then jF (rn r*rd s) (rn s*rd r)else 0
open Classical in
noncomputable def Zi (r:qH):Int:=if OkR r then jF (rn r) 0 else 0
theorem yj {n D:Nat}(h:0<D):0<Nat.gcd n D:=Nat.gcd_pos_of_pos_right _ h
theorem qZ (x:Int) (g:Nat) (hg:g∣x.natAbs):(x / (g:Int)).natAbs=x.natAbs / g:=by
 obtain⟨k,hk⟩:=hg
 rcases Nat.eq_zero_or_pos g with h0|h0
 ·subst h0;simp
 ·rw[hk,Nat.mul_div_cancel_left _ h0]
  rcases Int.natAbs_eq x with e|e
  ·rw[e,hk]
   have:((g * k:Nat):Int) / (g:Int)=(k:Int):=by
    rw[Int.natCast_mul];exact Int.mul_ediv_cancel_left _ (by omega)
   rw[this];simp
  ·rw[e,hk]
   have:(-((g * k:Nat):Int)) / (g:Int)=-(k:Int):=by
    rw[Int.natCast_mul,<-Int.mul_neg];exact Int.mul_ediv_cancel_left _ (by omega)
   rw[this];simp
theorem Jt (x:Int) (g:Nat) (h0:0<g):x / (g:Int)<0↔x<0:=by
 constructor
 ·intro h
  rcases Int.lt_or_le x 0 with hx|hx
  ·exact hx
  ·have:=Int.ediv_nonneg hx (show (0:Int)<=g by omega)
   omega
 ·intro h
  exact Int.ediv_neg_of_neg_of_pos h (by omega)
theorem YG {x:Int}{D:Nat}(hD:0<D):qm x D=zR\/OkR (qm x D):=by
 unfold qm
 split
 ·rename_i h
  right
  have hg:=yj (n:=x.natAbs) hD
  refine⟨_,_,rfl,Nat.div_pos (Nat.le_of_dvd hD (Nat.gcd_dvd_right _ _)) hg,?_,?_,h.2⟩
  ·rw[qZ _ _ (Nat.gcd_dvd_left _ _)]
   exact Nat.coprime_div_gcd_div_gcd hg
  ·rw[qZ _ _ (Nat.gcd_dvd_left _ _)]
   exact h.1
 ·exact .inl rfl
theorem jx (w:World) (a lo hi:Int) :
  Calls Tryz.prog 66 #[.int .i64 a,.int .i64 lo,.int .i64 hi] w λe w'=>e=.returned (.bool (decide (lo<=a)&&decide (a<=hi)))/\∃q,w'=w.drewN q:=by
 by_cases h1:lo<=a
 ·by_cases h2:a<=hi
  ·go_enter Tryz.func66,Tryz.ntmps66
   go_wp2
   go_ret
   exact⟨by simp[*],(by first|exact⟨_,rfl⟩|exact⟨0,rfl⟩|exact qf ⟨_,rfl⟩|exact qf (qf ⟨_,rfl⟩))⟩
  ·go_enter Tryz.func66,Tryz.ntmps66
   go_wp2
   go_ret
   exact⟨by simp[*],(by first|exact⟨_,rfl⟩|exact⟨0,rfl⟩|exact qf ⟨_,rfl⟩|exact qf (qf ⟨_,rfl⟩))⟩
 ·go_enter Tryz.func66,Tryz.ntmps66
  go_wp2
  go_ret
  exact⟨by rw[decide_eq_false (show ¬lo<=a by omega)];rfl,(by first|exact⟨_,rfl⟩|exact⟨0,rfl⟩|exact qf ⟨_,rfl⟩|exact qf (qf ⟨_,rfl⟩))⟩
theorem jn (w:World) (a lo hi:Int) :
  Calls Tryz.prog 161 #[.int .i64 a,.int .i64 lo,.int .i64 hi] w λe w'=>e=.returned (.bool (decide (lo<=a)&&decide (a<=hi)))/\∃q,w'=w.drewN q:=by
 by_cases h1:lo<=a
 ·by_cases h2:a<=hi
  ·go_enter Tryz.func161,Tryz.ntmps161
   go_wp2
   go_ret
   exact⟨by simp[*],(by first|exact⟨_,rfl⟩|exact⟨0,rfl⟩|exact qf ⟨_,rfl⟩|exact qf (qf ⟨_,rfl⟩))⟩
  ·go_enter Tryz.func161,Tryz.ntmps161
   go_wp2
   go_ret
   exact⟨by simp[*],(by first|exact⟨_,rfl⟩|exact⟨0,rfl⟩|exact qf ⟨_,rfl⟩|exact qf (qf ⟨_,rfl⟩))⟩
 ·go_enter Tryz.func161,Tryz.ntmps161
  go_wp2
  go_ret
  exact⟨by rw[decide_eq_false (show ¬lo<=a by omega)];rfl,(by first|exact⟨_,rfl⟩|exact⟨0,rfl⟩|exact qf ⟨_,rfl⟩|exact qf (qf ⟨_,rfl⟩))⟩
theorem Zl (w:World) (t:qC) :
  Calls Tryz.prog 69 #[.agg #[.int .i64 t.a,.int .i64 t.b,.int .i64 t.c,.int .i64 t.region,.int .i64 t.level]] w λe w'=>e=.returned (.agg #[.int .i64 t.a,.int .i64 t.b,.int .i64 t.c])/\Bl w w':=by
 go_enter Tryz.func69,Tryz.ntmps69
 go_wp2
 refine bodyPost_ret (v:=.agg #[.int .i64 t.a,.int .i64 t.b,.int .i64 t.c]) (by simp[results,Tryz.results69,go_sem]) rfl ⟨rfl,slc⟩
theorem zN (l:List Nat) (k:Nat):ix (qu l) k=(dx l k:Int):=by
 unfold ix qu dx
 rw[List.getD_eq_getElem?_getD,List.getD_eq_getElem?_getD,List.getElem?_map]
 cases l[k]? <;> rfl
abbrev IsN (w:World) (A:Option Addr) (n c N:Nat):Prop:=RdI w A n c (qu (dig N))
theorem RdI.atN {w:World}{A:Option Addr}{n c:Nat}{l:List Nat}(h:RdI w A n c (qu l)) {k:Nat}(hk:k<n) :
  ∃ad,A=some ad/\ad.block<w.heap.size/\w.cell? (ad.add k)=some (.int .i64 ((dx l k:Nat):Int)):=by
 obtain⟨ad,e,hlt,hc⟩:=h.at_ hk
 exact⟨ad,e,hlt,by rw[hc,zN]⟩
theorem RdI.lenN {w:World}{A:Option Addr}{n c:Nat}{l:List Nat}(h:RdI w A n c (qu l)):l.length=n:=by
 have:=h.len
 rwa [qg]at this
theorem RdI.cut {w:World}{A:Option Addr}{n c m:Nat}{l:List Nat}(h:RdI w A n c (qu l)) (hm:m<=n):RdI w A m c (qu (l.take m)) :=
 ⟨by rw[qg,List.length_take,h.lenN];omega,Nat.le_trans hm h.cap,Nat.le_trans hm h.small,λk hk=>by
  obtain⟨ad,e,hlt,hc⟩:=h.atN (k:=k) (by omega)
  exact⟨ad,e,hlt,by rw[hc,zN,X5 hk]⟩⟩
theorem RdI.of_ow {T:TypeId}{w:World}{g n c:Nat}{l:List Int}(h:Ow T w g l) (hl:l.length=n) (hn:n<=9223372036854775807) (hc:n<=c:=by omega):RdI w (some ⟨g,0,none⟩) n c l:=by
 subst hl
 exact h.rd hn hc
theorem OwI.of_ow {T:TypeId}{w:World}{b0 g n c m N:Nat}{l:List Nat}(h:Ow T w g (qu l)) (hg:b0<=g) (hl:(qu l).length=n) (hn:n<=9223372036854775807) (hm:m<=n) (ht:l.take m=dig N) (hc:n<=c:=by omega):OwI T b0 w (some ⟨g,0,none⟩) m c (qu (dig N)):=by
 have hr:=(RdI.of_ow (c:=c) h hl hn hc).cut hm
 rw[ht]at hr
 exact⟨hr,.inr ⟨g,_,rfl,hg,h,by simp;omega⟩⟩
theorem OwI.q {T:TypeId}{w w':World}{b0:Nat}{A:Option Addr}{n c:Nat}{l:List Int}(h:OwI T b0 w A n c l) (hq:∃q,w'=w.drewN q):OwI T b0 w' A n c l:=h.bl (vV hq)
def Pre (T:TypeId) (w:World) (g:Nat) (l:List Int):Prop:=∃r:List Value,w.heap[g]?=some (.cells (l.map (Value.int .i64)++r).toArray T (0,0))
section
variable {T:TypeId}{w W:World}{g:Nat}{l:List Int}
theorem Pre.lt (h:Pre T w g l):g<w.heap.size:=by
 obtain⟨r,h⟩:=h
 exact qV h
theorem Pre.cell (h:Pre T w g l) {k:Nat}(hk:k<l.length):w.cell? ⟨g,k,none⟩=some (.int .i64 (ix l k)):=by
 obtain⟨r,h⟩:=h
 rw[cell_of_row w g k _ T (0,0) h]
 simp[ix,hk,List.getElem?_append]
theorem Pre.frozen (h:Pre T w g l) (k:Nat):w.frozen? ⟨g,k,none⟩=false:=by
 obtain⟨r,h⟩:=h
 simp[World.frozen?,h]
theorem Pre.set_ (h:Pre T w g l) {k:Nat}(hk:k<l.length) (x:Int):Pre T (w.setCell ⟨g,k,none⟩ (.int .i64 x)) g (l.set k x):=by
 obtain⟨r,h⟩:=h
 refine⟨r,?_⟩
 simp only[World.setCell,Array.getElem?_modify,h]
 simp[hk,List.map_set]
theorem Pre.rd (h:Pre T w g l) {n c:Nat}(hl:l.length=n) (hn:n<=9223372036854775807) (hc:n<=c):RdI w (some ⟨g,0,none⟩) n c l :=
 ⟨hl,hc,hn,λk hk =>⟨⟨g,0,none⟩,rfl,h.lt,by
  rw[Addr.add_lit,Nat.zero_add]
  exact h.cell (by rw[hl];exact hk)⟩⟩
theorem Pre.cutN {n c m b0 N:Nat}{l:List Nat}(h:Pre T w g (qu l)) (hg:b0<=g) (hl:l.length=n) (hn:n<=9223372036854775807) (hc:n<=c) (hm:m<=n) (ht:l.take m=dig N):OwI T b0 w (some ⟨g,0,none⟩) m c (qu (dig N)):=by
 have hr:=(h.rd (c:=c) (by rw[qg];exact hl) hn hc).cut hm
 rw[ht]at hr
 obtain⟨r,h⟩:=h
 exact⟨hr,.inr ⟨g,_,rfl,hg,h,by simp[qg];omega⟩⟩
theorem OwI.pre {b0:Nat}{A:Option Addr}{n c:Nat}(h:OwI T b0 w A n c l) (h0:0<n):∃g,A=some ⟨g,0,none⟩/\b0<=g/\Pre T w g l:=by
 obtain⟨hr,h2⟩:=h
 rcases h2 with h2 |⟨g,cs,rfl,hg,hh,hn⟩
 ·omega
 ·refine⟨g,rfl,hg,cs.toList.drop n,?_⟩
  rw[hh]
  congr 2
  apply Array.toList_inj.1
  simp only[]
  apply List.ext_getElem?
  intro i
  rcases Nat.lt_or_ge i n with hi|hi
  ·rw[List.getElem?_append_left (by simp[hr.len,hi])]
   obtain⟨ad,e,_,hc⟩:=hr.at_ hi
   injection e with e
   subst e
   rw[Addr.add_lit,Nat.zero_add,cell_of_row w g i cs T (0,0) hh]at hc
   rw[Array.getElem?_toList,hc]
   simp[ix,hr.len,hi]
  ·rw[List.getElem?_append_right (by simp[hr.len,hi])]
   simp[hr.len,hi]
end
theorem xx {l:List Nat}{m:Nat}(h:∀j,m+1<=j->dx l j=0) (h0:dx l m=0):∀j,m<=j->dx l j=0:=by
 intro j hj
 rcases Nat.eq_or_lt_of_le hj with rfl|hlt
 ·exact h0
 ·exact h j hlt
theorem zQ (w:World) {A:Option Addr}{n c:Nat}{l:List Nat}(h:RdI w A n c (qu l)) (hd:jL l) :
  Calls Tryz.prog 141 #[.slice A n c] w λe w'=>∃m,e=.returned (.slice A m c)/\m<=n/\l.take m=dig (val l)/\∃q,w'=w.drewN q:=by
 have hn:=h.small
 have hcap:=h.cap
 have hl:=Lib.hid h.lenN
 go_enter Tryz.func141,Tryz.ntmps141
 go_wp2
 go_loop [0] (λv=>∃m,v=.slice A m c/\m<=n/\∀j,m<=j->dx l j=0) (λv=>match v with | .slice _ m _=>m|_=>0)
 case atStart=>exact⟨n,rfl,Nat.le_refl _,λj hj=>qP (by rw[hl.out];exact hj)⟩
 case round=>
  obtain⟨m,rfl,hm,hz⟩:=hrel
  have hz:=Lib.hid hz;rename_i hzo;clear hzo
  rcases m with _|m
  ·have hfin:=Lib.hid (JS hd (Nat.zero_le _) hz.out (.inl rfl))
   go_wp2
   go_ret
   exact⟨0,rfl,Nat.zero_le _,hfin.out,0,rfl⟩
  ·obtain⟨ad,rfl,hlt,hc⟩:=h.atN (k:=m) (by omega)
   have hki:((m+1:Nat):Int)-1=(m:Int):=by omega
   have hmc:m<=c:=by omega
   by_cases h0:dx l m=0
   ·have hz':=Lib.hid (xx hz.out h0)
    rw[h0]at hc
    have h0':=Lib.hid h0;clear h0
    go_wp2
    go_round
    case rel=>exact⟨m,rfl,by omega,hz'.out⟩
    case measure=>simp
   ·have hfin:=Lib.hid (JS hd (by rw[hl.out];exact hm) hz.out (.inr h0))
    have hbeq:(((dx l m:Nat):Int) == 0)=false:=by simp;omega
    clear h0
    go_wp2
    go_ret
    exact⟨m+1,rfl,hm,hfin.out,0,rfl⟩
theorem vQ {d:List Nat}{R N:Nat}(h:d++dig R=dig N) (h0:0<R):(d++[R % Bs])++dig (R / Bs)=dig N:=by
 rw[List.append_assoc,List.singleton_append,<-yn (by omega)];exact h
theorem xD (w:World) (N:Nat) (hN:N<18446744073709551616) :
  Calls Tryz.prog 150 #[.int .u64 (N:Int)] w λe w'=>∃A n c,e=.returned (.slice A n c)/\OwI 3 w.heap.size w' A n c (qu (dig N))/\Bl w w':=by
 go_enter Tryz.func150,Tryz.ntmps150
 go_wp2
 go_loopw [0,3] (λr v wr=>∃(R:Nat) (d:List Nat),r=.int .u64 (R:Int)/\R<=N/\d++dig R=dig N/\OwL 3 w.heap.size wr v (qu d)/\Bl w wr) (λr _ _=>(intOf r).toNat)
 case atStart=>exact⟨N,[],rfl,Nat.le_refl _,rfl,OwL.empty w (Nat.le_refl _) (by simp),(Bl.refl w).alloc _⟩
 case round=>
  obtain⟨R,d,rfl,hR,hd,hown,hbw⟩:=hrel
  have hd:=Lib.hid hd;rename_i hdo;clear hdo
  by_cases h0:0<R
  ·have hnext:=Lib.hid (vQ hd.out h0)
   have hlen:(qu d).length<=1099511627776:=by
    have:=congrArg List.length hd.out
    have h3:(dig N).length<=3:=qr.2 (by rw[qk];omega)
    rw[List.length_append]at this
    rw[qg];omega
   have hpos:(0:Int)<(R:Int):=by omega
   have hdiv:=Nat.div_lt_self h0 (show 1<1000000000 by omega)
   go_wp2_with (at_builtin;go_must (refine qo (w0:=w) qn Tryz.underlying22 rfl (.tmp 9) (.tmp 13) rfl _ (qu d) rfl hown hbw 1 rfl hlen ?_);intro v' w1 hown1 hbw1)
   go_roundw
   case rel=>exact⟨R / Bs,d++[R % Bs],by rw[qk];go_num,Nat.le_trans (Nat.div_le_self _ _) hR,hnext.out,by rw[qD,qk];exact hown1,hbw1⟩
   case measure=>simp[intOf];omega
  ·obtain rfl:R=0:=by omega
   have hfin:=Lib.hid (show d=dig N by have:=hd.out;rwa [qX,List.append_nil]at this)
   have hlen:(qu d).length<=9223372036854775807:=by
    have h3:(dig N).length<=3:=qr.2 (by rw[qk];omega)
    rw[qg,hfin.out];omega
   obtain⟨A,c,hv,ho⟩:=hown.own hlen
   have hv:=Lib.hid hv;rename_i hvo;clear hvo
   go_wp2
   go_ret
   exact⟨A,_,c,congrArg Ending.returned hv.out,by rw[<-hfin.out];exact ho,hbw⟩
end Go.Proofs.YtjaapemopbbfaaaGreatDoor
