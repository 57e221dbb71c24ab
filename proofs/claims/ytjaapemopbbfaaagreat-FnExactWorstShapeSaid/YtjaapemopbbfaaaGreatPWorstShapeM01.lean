/- Lemmas. -/
import Init.Data.List
namespace Go.Proofs.YtjaapemopbbfaaaGreat
section
/-- The base of the limbs. -/
def Bs:Nat:=1000000000
theorem Bs_eq:Bs=1000000000:=rfl
theorem Bs_pos:0 < Bs:=by decide
/-- The value of limbs, the least first. -/
def val:List Nat→Nat
  | []=> 0
  | x :: xs=> x+Bs * val xs
/-- Limb k (0 beyond the end). -/
def dx (l:List Nat) (k:Nat):Nat:=l.getD k 0
def Digs (l:List Nat):Prop:=∀ d ∈ l,d < Bs
theorem dx_lt {l:List Nat}(h:Digs l) (k:Nat):dx l k < Bs:=by
  unfold dx
  rw[List.getD_eq_getElem?_getD]
  rcases Nat.lt_or_ge k l.length with hk | hk
  · rw[List.getElem?_eq_getElem hk];exact h _ (List.getElem_mem hk)
  · rw[List.getElem?_eq_none hk];exact Bs_pos
theorem dx_beyond {l:List Nat}{k:Nat}(h:l.length≤k):dx l k=0:=by
  unfold dx;rw[List.getD_eq_getElem?_getD,List.getElem?_eq_none h];rfl
theorem dx_cons_succ (x:Nat) (l:List Nat) (k:Nat):dx (x :: l) (k+1)=dx l k:=by simp[dx]
theorem dx_cons_zero (x:Nat) (l:List Nat):dx (x :: l) 0=x:=by simp[dx]
theorem digs_of_dx {l:List Nat}(h:∀ k,k < l.length→dx l k < Bs):Digs l:=by
  intro d hd
  obtain⟨k,hk,rfl⟩:=List.mem_iff_getElem.1 hd
  have:=h k hk
  unfold dx at this
  rwa [List.getD_eq_getElem?_getD,List.getElem?_eq_getElem hk] at this
/-- The value of the limbs below place k. -/
def vf (f:Nat→Nat):Nat→Nat
  | 0=> 0
  | k+1=> vf f k+f k * Bs ^ k
theorem vf_congr {f g:Nat→Nat}{k:Nat}(h:∀ i,i < k→f i=g i):vf f k=vf g k:=by
  induction k with
  | zero=> rfl
  | succ k ih=> simp only[vf];rw[ih fun i hi=> h i (by omega),h k (by omega)]
theorem vf_shift (f:Nat→Nat) (k:Nat):vf f (k+1)=f 0+Bs * vf (fun i=> f (i+1)) k:=by
  induction k with
  | zero=> simp[vf]
  | succ k ih =>
    rw[vf,ih]
    simp only[vf]
    rw[Nat.mul_add,Nat.pow_succ,Nat.add_assoc]
    congr 2
    rw[Nat.mul_comm Bs,Nat.mul_assoc]
theorem vf_lt {f:Nat→Nat}{k:Nat}(h:∀ i,i < k→f i < Bs):vf f k < Bs ^ k:=by
  induction k with
  | zero=> simp[vf]
  | succ k ih =>
    have h1:=ih fun i hi=> h i (by omega)
    have h2:f k+1≤Bs:=h k (by omega)
    have h3:=Nat.mul_le_mul_right (Bs ^ k) h2
    rw[Nat.add_mul,Nat.one_mul] at h3
    simp only[vf,Nat.pow_succ]
    rw[Nat.mul_comm (Bs ^ k) Bs]
    omega
theorem vf_zero {f:Nat→Nat}{k m:Nat}(h:∀ i,k≤i→i < m→f i=0) (hk:k≤m):vf f m=vf f k:=by
  induction m with
  | zero => obtain rfl : k = 0 := by omega
            rfl
  | succ m ih =>
    rcases Nat.eq_or_lt_of_le hk with rfl | hlt
    · rfl
    · rw[vf,h m (by omega) (by omega),ih (fun i h1 h2=> h i h1 (by omega)) (by omega)];omega
theorem val_eq_vf (l:List Nat):val l=vf (dx l) l.length:=by
  induction l with
  | nil=> rfl
  | cons x l ih =>
    rw[List.length_cons,vf_shift,val,ih]
    congr 1
theorem val_vf {l:List Nat}{k:Nat}(h:l.length≤k):vf (dx l) k=val l:=by
  rw[val_eq_vf]
  exact vf_zero (fun i h1 _=> dx_beyond h1) h
theorem val_lt {l:List Nat}(h:Digs l):val l < Bs ^ l.length:=by
  rw[val_eq_vf];exact vf_lt fun i _=> dx_lt h i
theorem val_snoc (l:List Nat) (x:Nat):val (l ++ [x])=val l+x * Bs ^ l.length:=by
  induction l with
  | nil=> simp[val]
  | cons y l ih =>
    simp only[List.cons_append,val,ih,List.length_cons,Nat.pow_succ,Nat.mul_add]
    rw[Nat.add_assoc]
    congr 2
    rw[Nat.mul_comm Bs,Nat.mul_assoc]
theorem val_take_succ (l:List Nat) (k:Nat):val (l.take (k+1))=val (l.take k)+dx l k * Bs ^ k:=by
  rcases Nat.lt_or_ge k l.length with h | h
  · rw[List.take_succ_eq_append_getElem h,val_snoc,List.length_take,Nat.min_eq_left (by omega)]
    congr 2
    unfold dx;rw[List.getD_eq_getElem?_getD,List.getElem?_eq_getElem h];rfl
  · rw[List.take_of_length_le (by omega),List.take_of_length_le (by omega),dx_beyond h];omega
theorem vf_take (l:List Nat) (k:Nat):vf (dx l) k=val (l.take k):=by
  induction k with
  | zero=> simp[vf,val]
  | succ k ih=> rw[vf,ih,val_take_succ]
theorem val_replicate (n:Nat):val (List.replicate n 0)=0:=by
  induction n with
  | zero=> rfl
  | succ n ih=> rw[List.replicate_succ,val,ih];rfl
theorem val_set {l:List Nat}{i:Nat}(h:i < l.length) (v:Nat):val (l.set i v)+dx l i * Bs ^ i=val l+v * Bs ^ i:=by
  induction l generalizing i with
  | nil=> simp at h
  | cons y l ih =>
    cases i with
    | zero=> simp[val,dx];omega
    | succ i =>
      have:=ih (i:=i) (by simpa using h)
      simp only[List.set_cons_succ,val,dx_cons_succ,Nat.pow_succ]
      rw[← Nat.mul_assoc,← Nat.mul_assoc,Nat.mul_comm _ Bs,Nat.mul_comm _ Bs]
      have h2:=congrArg (Bs * ·) this
      simp only[Nat.mul_add] at h2
      omega
theorem dx_set {l:List Nat}{i:Nat}(h:i < l.length) (v j:Nat):dx (l.set i v) j=if j=i then v else dx l j:=by
  unfold dx
  rw[List.getD_eq_getElem?_getD,List.getD_eq_getElem?_getD,List.getElem?_set]
  by_cases e:i=j
  · subst e;simp[h]
  · rw[if_neg e,if_neg (fun h=> e h.symm)]
theorem digs_set {l:List Nat}(h:Digs l) {v:Nat}(hv:v < Bs) (i:Nat):Digs (l.set i v):=by
  intro d hd
  rcases List.mem_or_eq_of_mem_set hd with h1 | h1
  · exact h d h1
  · subst h1;exact hv
theorem digs_replicate (n:Nat):Digs (List.replicate n 0):=by
  intro d hd
  rw[List.mem_replicate] at hd
  rw[hd.2];exact Bs_pos
theorem digs_take {l:List Nat}(h:Digs l) (k:Nat):Digs (l.take k):=fun d hd=> h d (List.mem_of_mem_take hd)
theorem digs_snoc {l:List Nat}(h:Digs l) {v:Nat}(hv:v < Bs):Digs (l ++ [v]):=by
  intro d hd
  rcases List.mem_append.1 hd with h1 | h1
  · exact h d h1
  · simp at h1;subst h1;exact hv

/-- The limbs of a number. -/
def dig (n:Nat):List Nat:=if _h:n=0 then [] else (n % Bs) :: dig (n / Bs)
termination_by n
decreasing_by exact Nat.div_lt_self (by omega) (by decide)
theorem dig_zero:dig 0=[]:=by unfold dig;simp
theorem dig_pos {n:Nat}(h:n≠0):dig n=(n % Bs) :: dig (n / Bs):=by rw[dig];simp[h]
theorem val_dig (n:Nat):val (dig n)=n:=by
  induction n using Nat.strongRecOn with
  | ind n ih =>
    by_cases h:n=0
    · subst h;rw[dig_zero];rfl
    · rw[dig_pos h,val,ih _ (Nat.div_lt_self (by omega) (by decide))]
      exact Nat.mod_add_div n Bs
theorem digs_dig (n:Nat):Digs (dig n):=by
  induction n using Nat.strongRecOn with
  | ind n ih =>
    by_cases h:n=0
    · subst h;rw[dig_zero];intro d hd;cases hd
    · rw[dig_pos h]
      intro d hd
      rcases List.mem_cons.1 hd with rfl | hd
      · exact Nat.mod_lt _ Bs_pos
      · exact ih _ (Nat.div_lt_self (by omega) (by decide)) d hd
/-- Limbs without a zero at the end. -/
def Canon:List Nat→Prop
  | []=> True
  | x :: xs=> x < Bs∧Canon xs∧(xs=[]→x≠0)
theorem canon_dig (n:Nat):Canon (dig n):=by
  induction n using Nat.strongRecOn with
  | ind n ih =>
    by_cases h:n=0
    · subst h;rw[dig_zero];trivial
    · rw[dig_pos h]
      refine⟨Nat.mod_lt _ Bs_pos,ih _ (Nat.div_lt_self (by omega) (by decide)),fun e=> ?_⟩
      have h2:n / Bs=0:=by rw[← val_dig (n / Bs),e];rfl
      have:=Nat.mod_add_div n Bs
      rw[h2] at this
      omega
theorem canon_val_pos {l:List Nat}(h:Canon l) (hl:l≠[]):0 < val l:=by
  induction l with
  | nil=> exact absurd rfl hl
  | cons x xs ih =>
    simp only[val]
    by_cases e:xs=[]
    · have:=h.2.2 e;omega
    · have:=ih h.2.1 e
      have:=Nat.mul_lt_mul_of_pos_left this Bs_pos
      omega
theorem dig_val {l:List Nat}(h:Canon l):dig (val l)=l:=by
  induction l with
  | nil=> exact dig_zero
  | cons x xs ih =>
    have hp:=canon_val_pos h (by simp)
    rw[dig_pos (by omega)]
    simp only[val]
    rw[Nat.add_mul_mod_self_left,Nat.mod_eq_of_lt h.1,Nat.add_mul_div_left _ _ Bs_pos,Nat.div_eq_of_lt h.1,Nat.zero_add,ih h.2.1]
theorem canon_of_last {l:List Nat}(h:Digs l) (hl:l≠[]→dx l (l.length - 1)≠0):Canon l:=by
  induction l with
  | nil=> trivial
  | cons x xs ih =>
    refine⟨h x (by simp),ih (fun d hd=> h d (by simp[hd])) (fun e=> ?_),fun e=> ?_⟩
    · have:=hl (by simp)
      obtain⟨m,hm⟩:∃ m,xs.length=m+1:=⟨xs.length - 1,by have:=List.length_pos_iff.2 e;omega⟩
      rw[List.length_cons,hm] at this
      rw[hm]
      simpa [dx_cons_succ] using this
    · subst e
      have:=hl (by simp)
      simpa [dx] using this
theorem canon_last {l:List Nat}(h:Canon l) (hl:l≠[]):dx l (l.length - 1)≠0:=by
  induction l with
  | nil=> exact absurd rfl hl
  | cons x xs ih =>
    by_cases e:xs=[]
    · subst e;simpa [dx] using h.2.2 rfl
    · obtain⟨m,hm⟩:∃ m,xs.length=m+1:=⟨xs.length - 1,by have:=List.length_pos_iff.2 e;omega⟩
      have:=ih h.2.1 e
      rw[hm] at this
      rw[List.length_cons,hm]
      simpa [dx_cons_succ] using this
theorem canon_lower {l:List Nat}(h:Canon l) (hl:l≠[]):Bs ^ (l.length - 1)≤val l:=by
  rw[val_eq_vf]
  obtain⟨m,hm⟩:∃ m,l.length=m+1:=⟨l.length - 1,by have:=List.length_pos_iff.2 hl;omega⟩
  have h1:=canon_last h hl
  rw[hm] at h1 ⊢
  simp only[Nat.add_sub_cancel] at h1 ⊢
  rw[vf]
  have:=Nat.mul_le_mul_right (Bs ^ m) (Nat.one_le_iff_ne_zero.2 h1)
  omega
theorem canon_of_lower {l:List Nat}(h:Digs l) (hl:l≠[]→Bs ^ (l.length - 1)≤val l):Canon l:=by
  refine canon_of_last h fun e h0=> ?_
  have h1:=hl e
  obtain⟨m,hm⟩:∃ m,l.length=m+1:=⟨l.length - 1,by have:=List.length_pos_iff.2 e;omega⟩
  rw[val_eq_vf,hm] at h1
  rw[hm] at h0
  simp only[Nat.add_sub_cancel] at h0 h1
  rw[vf,h0] at h1
  have:=vf_lt (f:=dx l) (k:=m) fun i _=> dx_lt h i
  omega
theorem dig_len_le {n k:Nat}:(dig n).length≤k↔n < Bs ^ k:=by
  constructor
  · intro h
    have:=val_lt (digs_dig n)
    rw[val_dig] at this
    exact Nat.lt_of_lt_of_le this (Nat.pow_le_pow_right Bs_pos h)
  · intro h
    rcases Nat.lt_or_ge k (dig n).length with hl | hl
    · have hne:dig n≠[]:=fun e=> by rw[e] at hl;simp at hl
      have h1:=canon_lower (canon_dig n) hne
      rw[val_dig] at h1
      have h2:=Nat.pow_le_pow_right (n:=Bs) Bs_pos (show k≤(dig n).length - 1 by omega)
      omega
    · exact hl
theorem dig_nil {n:Nat}:dig n=[]↔n=0:=by
  constructor
  · intro h;rw[← val_dig n,h];rfl
  · rintro rfl;exact dig_zero
theorem dig_len_pos {n:Nat}:0 < (dig n).length↔0 < n:=by
  rw[List.length_pos_iff,Ne,dig_nil];omega
/-- Limbs that are cut where the rest is zero. -/
theorem trim_val {l:List Nat}{m:Nat}(h:∀ j,m≤j→dx l j=0):val (l.take m)=val l:=by
  rw[← vf_take]
  rcases Nat.lt_or_ge m l.length with hm | hm
  · rw[val_eq_vf];exact(vf_zero (fun i h1 _=> h i h1) (by omega)).symm
  · exact val_vf hm
theorem dx_take {l:List Nat}{m k:Nat}(h:k < m):dx (l.take m) k=dx l k:=by
  unfold dx
  rw[List.getD_eq_getElem?_getD,List.getD_eq_getElem?_getD,List.getElem?_take,if_pos h]
theorem trim_dig {l:List Nat}{m:Nat}(hd:Digs l) (hm:m≤l.length) (h:∀ j,m≤j→dx l j=0) (h0:m=0∨dx l (m - 1)≠0):l.take m=dig (val l):=by
  rw[← trim_val h]
  refine(dig_val (canon_of_last (digs_take hd m) fun e=> ?_)).symm
  have hl:(l.take m).length=m:=by rw[List.length_take];omega
  rw[hl]
  have hpos:0 < m:=by
    rw[← hl];exact List.length_pos_iff.2 e
  rw[dx_take (by omega)]
  rcases h0 with h0 | h0
  · omega
  · exact h0

/-- Limbs as ints. -/
def ints (l:List Nat):List Int:=l.map Int.ofNat
theorem ints_len (l:List Nat):(ints l).length=l.length:=by simp[ints]
theorem ints_append (a b:List Nat):ints (a ++ b)=ints a ++ ints b:=by simp[ints]
theorem ints_set (a:List Nat) (k x:Nat):ints (a.set k x)=(ints a).set k (x:Int):=by simp[ints]
theorem ints_replicate (n:Nat):ints (List.replicate n 0)=List.replicate n 0:=by simp[ints]
theorem ints_inj {a b:List Nat}(h:ints a=ints b):a=b:=by
  unfold ints at h
  exact(List.map_inj_right (fun x y h=> Int.ofNat.inj h)).1 h
end

end Go.Proofs.YtjaapemopbbfaaaGreat
