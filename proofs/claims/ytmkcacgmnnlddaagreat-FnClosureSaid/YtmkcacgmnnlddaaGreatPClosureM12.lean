import Derived.Test.YtmkcacgmnnlddaaGreatRows
import Derived.Test.YtmkcacgmnnlddaaGreatPClosureM11
import Derived.Test.YtmkcacgmnnlddaaGreatPClosureM02
import Derived.Test.YtmkcacgmnnlddaaGreatPClosureM08
import Derived.Test.YtmkcacgmnnlddaaGreatPClosureM07
namespace Go.Proofs.YtmkcacgmnnlddaaGreat
set_option maxRecDepth 100000
set_option maxHeartbeats 4000000
section
open Go.RowKit
def eqR (a b:RatD):Bool:=a.neg == b.neg&&eqL a.mag b.mag&&eqL a.den b.den
theorem eqR_den {r r':RatD}{s s':Bool}(h:s=r.neg) (h':s'=r'.neg) (e0:(s == s')=true) (e1:eqL r.mag r'.mag=true):eqR r r'=eqL r.den r'.den:=by
 unfold eqR;rw[←h,←h',e0,e1];rfl
theorem eqR_mag {r r':RatD}(e1:eqL r.mag r'.mag=false):eqR r r'=false:=by
 unfold eqR;rw[e1];simp
theorem eqR_neg {r r':RatD}{s s':Bool}(h:s=r.neg) (h':s'=r'.neg) (e0:(s == s')=false):eqR r r'=false:=by
 unfold eqR;rw[←h,←h',e0];rfl
def eqP (a b:PtD):Bool:=eqR a.x b.x&&eqR a.y b.y
theorem eqP_y {p q:PtD}(e0:eqR p.x q.x=true):eqP p q=eqR p.y q.y:=by unfold eqP;rw[e0];rfl
theorem eqP_x {p q:PtD}(e0:eqR p.x q.x=false):eqP p q=false:=by unfold eqP;rw[e0];rfl
theorem RatEqual_any (w:World) {A B A' B':Option Addr}{n m n' m' c d c' d':Nat}{s s':Bool}{r r':RatD}(h:RdR w s A n c B m d r) (h':RdR w s' A' n' c' B' m' d' r') :
  Calls Tryz.prog 66 #[.agg #[.bool s,.slice A n c,.slice B m d],.agg #[.bool s',.slice A' n' c',.slice B' m' d']] w fun e w'=>e=.returned (.bool (eqR r r'))∧Bl w w':=by
 by_cases e0:(s == s')=true
 ·by_cases e1:eqL r.mag r'.mag=true
  ·have hs:=Lib.hid (eqR_den h.neg h'.neg e0 e1)
   go_enter Tryz.func66,Tryz.ntmps66
   go_wp2_with fail
   refine(Equal_int _ ((h.mag.alloc _).alloc _) ((h'.mag.alloc _).alloc _)).mono ?_
   rintro e w' ⟨rfl,q,rfl⟩
   go_wp2_with fail
   refine(Equal_int _ (((h.den.alloc _).alloc _).drewN _) (((h'.den.alloc _).alloc _).drewN _)).mono ?_
   rintro e w' ⟨rfl,q',rfl⟩
   go_wp2_with fail
   go_ret
   exact⟨ret_bool hs.out.symm,slc⟩
  ·have e1:eqL r.mag r'.mag=false:=by simpa using e1
   have hs:=Lib.hid (eqR_mag e1)
   go_enter Tryz.func66,Tryz.ntmps66
   go_wp2_with fail
   refine(Equal_int _ ((h.mag.alloc _).alloc _) ((h'.mag.alloc _).alloc _)).mono ?_
   rintro e w' ⟨rfl,q,rfl⟩
   go_wp2_with fail
   go_ret
   exact⟨ret_bool hs.out.symm,slc⟩
 ·have e0:(s == s')=false:=by simpa using e0
  have hs:=Lib.hid (eqR_neg h.neg h'.neg e0)
  go_enter Tryz.func66,Tryz.ntmps66
  go_wp2_with fail
  go_ret
  exact⟨ret_bool hs.out.symm,slc⟩
theorem sRatEqual_any (w:World) {A B A' B':Option Addr}{n m n' m' c d c' d':Nat}{s s':Bool}{r r':RatD}(h:RdR w s A n c B m d r) (h':RdR w s' A' n' c' B' m' d' r') :
  Calls Tryz.prog 177 #[.agg #[.bool s,.slice A n c,.slice B m d],.agg #[.bool s',.slice A' n' c',.slice B' m' d']] w fun e w'=>e=.returned (.bool (eqR r r'))∧Bl w w':=by
 by_cases e0:(s == s')=true
 ·by_cases e1:eqL r.mag r'.mag=true
  ·have hs:=Lib.hid (eqR_den h.neg h'.neg e0 e1)
   go_enter Tryz.func177,Tryz.ntmps177
   go_wp2_with fail
   refine(l04List_any _ ((h.mag.alloc _).alloc _) ((h'.mag.alloc _).alloc _)).mono ?_
   rintro e w' ⟨rfl,q,rfl⟩
   go_wp2_with fail
   refine(l04List_any _ (((h.den.alloc _).alloc _).drewN _) (((h'.den.alloc _).alloc _).drewN _)).mono ?_
   rintro e w' ⟨rfl,q',rfl⟩
   go_wp2_with fail
   go_ret
   exact⟨ret_bool hs.out.symm,slc⟩
  ·have e1:eqL r.mag r'.mag=false:=by simpa using e1
   have hs:=Lib.hid (eqR_mag e1)
   go_enter Tryz.func177,Tryz.ntmps177
   go_wp2_with fail
   refine(l04List_any _ ((h.mag.alloc _).alloc _) ((h'.mag.alloc _).alloc _)).mono ?_
   rintro e w' ⟨rfl,q,rfl⟩
   go_wp2_with fail
   go_ret
   exact⟨ret_bool hs.out.symm,slc⟩
 ·have e0:(s == s')=false:=by simpa using e0
  have hs:=Lib.hid (eqR_neg h.neg h'.neg e0)
  go_enter Tryz.func177,Tryz.ntmps177
  go_wp2_with fail
  go_ret
  exact⟨ret_bool hs.out.symm,slc⟩
theorem SamePoint_any (w:World) {A B A' B':Option Addr}{n m n' m' c d c' d':Nat}{s s':Bool}{C D C' D':Option Addr}{i j i' j' e f e' f':Nat}{t t':Bool}{p q:PtD}
  (h:RdR w s A n c B m d p.x) (k:RdR w t C i e D j f p.y) (h':RdR w s' A' n' c' B' m' d' q.x) (k':RdR w t' C' i' e' D' j' f' q.y) :
  Calls Tryz.prog 37 #[.agg #[.bool s,.slice A n c,.slice B m d,.bool t,.slice C i e,.slice D j f],.agg #[.bool s',.slice A' n' c',.slice B' m' d',.bool t',.slice C' i' e',.slice D' j' f']] w fun e w'=>e=.returned (.bool (eqP p q))∧Bl w w':=by
 by_cases e0:eqR p.x q.x=true
 ·have hs:=Lib.hid (eqP_y e0)
  go_enter Tryz.func37,Tryz.ntmps37
  go_wp2_with fail
  refine(RatEqual_any _ ((h.alloc _).alloc _) ((h'.alloc _).alloc _)).mono ?_
  rintro e w1 ⟨rfl,hb⟩
  obtain⟨hc,hf⟩:=bcell hb
  have hb1:Bl w w1:=slc
  go_wp2_with fail
  refine(RatEqual_any _ (k.bl hb1) (k'.bl hb1)).mono ?_
  rintro e w2 ⟨rfl,hb2⟩
  go_wp2_with fail
  go_ret
  exact⟨ret_bool hs.out.symm,slc⟩
 ·have e0:eqR p.x q.x=false:=by simpa using e0
  have hs:=Lib.hid (eqP_x e0)
  go_enter Tryz.func37,Tryz.ntmps37
  go_wp2_with fail
  refine(RatEqual_any _ ((h.alloc _).alloc _) ((h'.alloc _).alloc _)).mono ?_
  rintro e w1 ⟨rfl,hb⟩
  go_wp2_with fail
  go_ret
  exact⟨ret_bool hs.out.symm,slc⟩
theorem sSamePoint_any (w:World) {A B A' B':Option Addr}{n m n' m' c d c' d':Nat}{s s':Bool}{C D C' D':Option Addr}{i j i' j' e f e' f':Nat}{t t':Bool}{p q:PtD}
  (h:RdR w s A n c B m d p.x) (k:RdR w t C i e D j f p.y) (h':RdR w s' A' n' c' B' m' d' q.x) (k':RdR w t' C' i' e' D' j' f' q.y) :
  Calls Tryz.prog 148 #[.agg #[.bool s,.slice A n c,.slice B m d,.bool t,.slice C i e,.slice D j f],.agg #[.bool s',.slice A' n' c',.slice B' m' d',.bool t',.slice C' i' e',.slice D' j' f']] w fun e w'=>e=.returned (.bool (eqP p q))∧Bl w w':=by
 by_cases e0:eqR p.x q.x=true
 ·have hs:=Lib.hid (eqP_y e0)
  go_enter Tryz.func148,Tryz.ntmps148
  go_wp2_with fail
  refine(sRatEqual_any _ ((h.alloc _).alloc _) ((h'.alloc _).alloc _)).mono ?_
  rintro e w1 ⟨rfl,hb⟩
  obtain⟨hc,hf⟩:=bcell hb
  have hb1:Bl w w1:=slc
  go_wp2_with fail
  refine(sRatEqual_any _ (k.bl hb1) (k'.bl hb1)).mono ?_
  rintro e w2 ⟨rfl,hb2⟩
  go_wp2_with fail
  go_ret
  exact⟨ret_bool hs.out.symm,slc⟩
 ·have e0:eqR p.x q.x=false:=by simpa using e0
  have hs:=Lib.hid (eqP_x e0)
  go_enter Tryz.func148,Tryz.ntmps148
  go_wp2_with fail
  refine(sRatEqual_any _ ((h.alloc _).alloc _) ((h'.alloc _).alloc _)).mono ?_
  rintro e w1 ⟨rfl,hb⟩
  go_wp2_with fail
  go_ret
  exact⟨ret_bool hs.out.symm,slc⟩
theorem eqR_iff {a b:RatD}:eqR a b=true↔a=b:=by
 cases a;cases b
 simp[eqR,eqL,and_assoc]
theorem eqP_iff {a b:PtD}:eqP a b=true↔a=b:=by
 cases a;cases b
 simp[eqP,eqR_iff]
theorem eqP_no {a b:PtD}(h:¬a=b):eqP a b=false:=by
 rw[←Bool.not_eq_true,eqP_iff];exact h
def Same {α:Type} [DecidableEq α] (a b:α):Bool:=decide (a=b)
theorem same_yes {α:Type} [DecidableEq α] {a b:α}(h:a=b):Same a b=true:=decide_eq_true h
theorem same_no {α:Type} [DecidableEq α] {a b:α}(h:¬a=b):Same a b=false:=decide_eq_false h
def Agree {α:Type} [Inhabited α] (l l':List α) (k:Nat):Prop:=∀i,i<k→pix l i=pix l' i
theorem Agree.zero {α:Type} [Inhabited α] (l l':List α):Agree l l' 0:=fun i hi=>by omega
theorem Agree.step {α:Type} [Inhabited α] {l l':List α}{k:Nat}(h:Agree l l' k) (e:pix l k=pix l' k):Agree l l' (k+1):=by
 intro i hi
 rcases Nat.lt_succ_iff_lt_or_eq.1 hi with hi|rfl
 ·exact h i hi
 ·exact e
theorem Agree.all {α:Type} [Inhabited α] {l l':List α}{n:Nat}(h:Agree l l' n) (hl:l.length=n) (hl':l'.length=n):l=l':=list_eq_of_pix hl hl' h
theorem EqualFunc_any (w:World) {A B:Option Addr}{n m c d:Nat}{l l':List PtD}(ha:RdPS w A n c l) (hb:RdPS w B m d l') :
  Calls Tryz.prog 36 #[.slice A n c,.slice B m d,.func (.func 37) #[] #[]] w fun e w'=>e=.returned (.bool (Same l l'))∧Bl w w':=by
 have hna:=ha.small
 have hnb:=hb.small
 by_cases hnm:n=m
 ·subst hnm
  have hl:=Lib.hid ha.len
  have hl':=Lib.hid hb.len
  go_enter Tryz.func36,Tryz.ntmps36
  go_wp2
  go_loopw [17] (fun i wr=>∃k:Nat,k≤n∧i=.int .i64 (k:Int)∧Agree l l' k∧Bl w wr) (fun i _=>n-(intOf i).toNat)
  case atStart=>exact⟨0,Nat.zero_le _,rfl,Agree.zero _ _,Bl.refl _⟩
  case round=>
   obtain⟨k,hk,rfl,hag,hbw⟩:=hrel
   by_cases hkn:k<n
   ·obtain⟨ad,rfl,hlta,hca⟩:=(ha.bl hbw).cells k hkn
    obtain⟨bd,rfl,hltb,hcb⟩:=(hb.bl hbw).cells k hkn
    obtain⟨s,A,n',c',B,m,d',t,C,i,e,D,j,f,⟨g0,g1,g2,g3,g4,g5⟩,hx,hy⟩:=hca
    have hcb1:=hcb.bl (by rw[block_add];exact hltb) (slc:Bl wr (wr.alloc (.cells #[.bool s,.slice A n' c',.slice B m d',.bool t,.slice C i e,.slice D j f] 56)))
    obtain⟨s',A',n'',c'',B',m',d'',t',C',i',e',D',j',f',⟨p0,p1,p2,p3,p4,p5⟩,hx',hy'⟩:=hcb1
    have hki:(k:Int)<(n:Int):=by omega
    by_cases heq:pix l k=pix l' k
    ·have heq':=Lib.hid heq
     have hans:=eqP_iff.2 heq
     clear heq
     go_wp2_with fail
     refine(SamePoint_any _ ((hx.alloc _).alloc _) ((hy.alloc _).alloc _) (hx'.alloc _) (hy'.alloc _)).mono ?_
     rintro e w1 ⟨rfl,hb1⟩
     have hb2:Bl w w1:=slc
     clear hb1
     go_wp2_with fail
     go_roundw
     case rel=>exact⟨k+1,by omega,by go_num,hag.step heq'.out,hb2⟩
     case measure=>simp[intOf];omega
    ·have hs:=Lib.hid (same_no (a:=l) (b:=l') (fun e=>heq (by rw[e])))
     have hans:=eqP_no heq
     clear heq
     go_wp2_with fail
     refine(SamePoint_any _ ((hx.alloc _).alloc _) ((hy.alloc _).alloc _) (hx'.alloc _) (hy'.alloc _)).mono ?_
     rintro e w1 ⟨rfl,hb1⟩
     have hb2:Bl w w1:=slc
     clear hb1
     go_wp2_with fail
     go_ret
     exact⟨ret_bool hs.out.symm,hb2⟩
   ·have hs := Lib.hid (same_yes ((by
                     obtain rfl : k = n := by omega
                     exact hag.all hl.out hl'.out):l=l'))
    go_wp2_with fail
    go_ret
    exact⟨ret_bool hs.out.symm,hbw⟩
 ·have hs:=Lib.hid (same_no (a:=l) (b:=l') (fun e=>hnm (by rw[←ha.len,←hb.len,e])))
  have hne:((n:Int) != (m:Int))=true:=by simp;omega
  go_enter Tryz.func36,Tryz.ntmps36
  go_wp2
  go_ret
  exact⟨ret_bool hs.out.symm,Bl.refl _⟩
end
section
open Go.RowKit
structure Ob (bs:List Nat) (w W:World):Prop where
 os:W.os=w.os
 tape:W.tape=w.tape
 output:W.output=w.output
 size:w.heap.size≤W.heap.size
 block:∀k,k<w.heap.size→k∉bs→W.heap[k]?=w.heap[k]?
section
variable {T:TypeId}{bs cs:List Nat}{w W W2 w0:World}
theorem Ob.refl (bs:List Nat) (w:World):Ob bs w w:=⟨rfl,rfl,rfl,Nat.le_refl _,fun _ _ _=>rfl⟩
theorem Ob.trans (h:Ob bs w W) (k:Ob bs W W2):Ob bs w W2 :=
 ⟨k.os.trans h.os,k.tape.trans h.tape,k.output.trans h.output,Nat.le_trans h.size k.size,fun b hb hn=>(k.block b (Nat.lt_of_lt_of_le hb h.size) hn).trans (h.block b hb hn)⟩
theorem Ob.mono (h:Ob bs w W) (hs:∀b∈bs,b∈cs):Ob cs w W:=⟨h.os,h.tape,h.output,h.size,fun b hb hn=>h.block b hb fun hm=>hn (hs b hm)⟩
theorem Ob.set (h:Ob bs w W) {g:Nat}(hg:g∈bs) (off:Nat) (u:Value):Ob bs w (W.setCell ⟨g,off,none⟩ u) :=
 ⟨h.os,h.tape,h.output,by simpa [World.setCell]using h.size,fun k hk hn=>(Below.heap_setCell W _ u k (by intro e;exact hn (by rw[e];exact hg))).trans (h.block k hk hn)⟩
theorem Ob.drewN (h:Ob bs w W) (q:Nat):Ob bs w (W.drewN q):=⟨h.os,h.tape,h.output,h.size,h.block⟩
theorem Ob.of_bl (h:Bl w W) (bs:List Nat):Ob bs w W:=⟨h.os,h.tape,h.output,h.size,fun k hk _=>h.block k hk⟩
theorem Bl.ob (h:Bl w0 w) (ho:Ob bs w W) (hb:∀b∈bs,w0.heap.size≤b):Bl w0 W :=
 ⟨ho.os.trans h.os,ho.tape.trans h.tape,ho.output.trans h.output,Nat.le_trans h.size ho.size,fun k hk=>(ho.block k (Nat.lt_of_lt_of_le hk h.size) fun hm=>by have:=hb k hm;omega).trans (h.block k hk)⟩
theorem Blk.ob {g:Nat}{xs:Array Value}(h:Blk w g T xs) (ho:Ob bs w W) (hg:g∉bs):Blk W g T xs:=(ho.block g h.lt hg).trans h
theorem FtI.ob {A:Option Addr}{n c:Nat}{l:List Int}(h:FtI T w A n c l cs) (ho:Ob bs w W) (hd:∀b∈cs,b∉bs):FtI T W A n c l cs:=by
 refine h.keep ho.size fun b hm=>ho.block b ?_ (hd b hm)
 rcases h.2 with ⟨_,e⟩ |⟨g,xs,_,_,hh,_,e⟩
 ·rw[e]at hm;cases hm
 ·rw[e]at hm;simp at hm;subst hm;exact heap_lt hh
end
def marks (k:Int) (n:Nat):List Int:=(List.range n).map fun i:Nat=>k+(i:Int)
def Mkd (k:Int) (i:Nat) (cs:Array Value):Prop:=∀j,j<i→cs[j]?=some (.int .i64 (k+(j:Int)))
theorem Mkd.step {k:Int}{i:Nat}{cs:Array Value}(h:Mkd k i cs) (hi:i<cs.size):Mkd k (i+1) (cs.setIfInBounds i (.int .i64 (k+(i:Int)))):=by
 intro j hj
 rcases Nat.lt_succ_iff_lt_or_eq.1 hj with hj|rfl
 ·rw[Array.getElem?_setIfInBounds_ne (by omega)];exact h j hj
 ·simp[hi]
end
section
open Go.RowKit
theorem FtI.lt {T:TypeId}{w:World}{A:Option Addr}{n c:Nat}{l:List Int}{bs:List Nat}(h:FtI T w A n c l bs):∀b∈bs,b<w.heap.size:=by
 intro b hm
 rcases h.2 with ⟨_,e⟩ |⟨g,xs,_,_,hh,_,e⟩
 ·rw[e]at hm;cases hm
 ·rw[e]at hm;simp at hm;subst hm;exact heap_lt hh
theorem FtR.lt {T:TypeId}{w:World}{s:Bool}{A:Option Addr}{n c:Nat}{B:Option Addr}{m d:Nat}{r:RatD}{bs:List Nat}(h:FtR T w s A n c B m d r bs):∀b∈bs,b<w.heap.size:=by
 obtain⟨_,b1,b2,h1,h2,rfl⟩:=h
 intro b hb
 rcases List.mem_append.1 hb with hb|hb
 ·exact h1.lt b hb
 ·exact h2.lt b hb
theorem PtIn.lt {T:TypeId}{w:World}{cs:Array Value}{i:Nat}{p:PtD}{bs:List Nat}(h:PtIn T w cs i p bs):∀b∈bs,b<w.heap.size:=by
 obtain⟨s,A,n,c,B,m,d,t,C,j,e,D,k,f,b1,b2,_,h1,h2,rfl⟩:=h
 intro b hb
 rcases List.mem_append.1 hb with hb|hb
 ·exact h1.lt b hb
 ·exact h2.lt b hb
end
section
open Go.RowKit
theorem Ob.cellOf {bs:List Nat}{w W:World}(h:Ob bs w W) {b o:Nat}(hb:b<w.heap.size) (hn:b∉bs):W.cell? ⟨b,o,none⟩=w.cell? ⟨b,o,none⟩:=World.cell?_of_block (w:=w) (h.block b hb hn)
end
section
open Go.RowKit
theorem info_pt:(Tryz.prog.info? 56).map (fun i=>(i.zero,i.size,i.bytes))=some (some (.agg #[.bool false,.slice none 0 0,.slice none 0 0,.bool false,.slice none 0 0,.slice none 0 0]),6,112):=by kernel_rfl
end
section
open Go.RowKit
def OwX (T:TypeId) (lo hi:Nat) (w:World) (s:Bool) (A:Option Addr) (n c:Nat) (B:Option Addr) (m d:Nat) (r:RatD):Prop :=
 ∃bs,FtR T w s A n c B m d r bs∧Fp lo hi bs
section
variable {T:TypeId}{lo hi b0:Nat}{w W:World}{s:Bool}{A:Option Addr}{n c:Nat}{B:Option Addr}{m d:Nat}{r:RatD}{bs:List Nat}
theorem OwX.of (h:OwR T b0 w s A n c B m d r):OwX T b0 w.heap.size w s A n c B m d r:=h
theorem OwX.rd (h:OwX T lo hi w s A n c B m d r):RdR w s A n c B m d r:=by
 obtain⟨bs,h,_⟩:=h
 exact h.rd
theorem OwX.bl (h:OwX T lo hi w s A n c B m d r) (hb:Bl w W):OwX T lo hi W s A n c B m d r:=by
 obtain⟨bs,h,hf⟩:=h
 exact⟨bs,h.bl hb,hf⟩
theorem OwX.ob (h:OwX T lo hi w s A n c B m d r) (ho:Ob bs w W) (hd:∀b∈bs,b<lo∨hi≤b):OwX T lo hi W s A n c B m d r:=by
 obtain⟨cs,h,hf⟩:=h
 refine⟨cs,h.keep ho.size fun b hb=>ho.block b (h.lt b hb) fun hm=>?_,hf⟩
 have h1:=hf.2 b hb
 have h2:=hd b hm
 omega
end
def OwPZ (TI TP:TypeId) (lo hi:Nat) (w:World) (A:Option Addr) (n c:Nat) (l:List PtD):Prop :=
 l.length=n∧n≤c∧n≤1048576∧(n=0∨∃g cs fs,A=some ⟨g,0,none⟩∧Blk w g TP cs∧n*6≤cs.size∧PtsIn TI w cs l n fs∧Fp lo hi (g::fs.flatten))
section
variable {TI TP:TypeId}{lo hi lo' hi':Nat}{w W:World}{A:Option Addr}{n c:Nat}{l:List PtD}{bs:List Nat}
theorem OwPZ.rd (h:OwPZ TI TP lo hi w A n c l):RdPS w A n c l:=by
 obtain⟨h1,h2,h3,h4⟩:=h
 rcases h4 with h4 |⟨g,cs,fs,rfl,hB,hc,hP,hF⟩
 ·subst h4
  obtain rfl:=List.length_eq_zero_iff.1 h1
  exact RdS.nil _ _ _
 ·exact hP.rd hB h1 (by omega) h2
theorem OwPZ.keep (h:OwPZ TI TP lo hi w A n c l) (hs:w.heap.size≤W.heap.size) (hk:∀b,lo≤b→b<hi→b<w.heap.size→W.heap[b]?=w.heap[b]?):OwPZ TI TP lo hi W A n c l:=by
 obtain⟨h1,h2,h3,h4⟩:=h
 refine⟨h1,h2,h3,?_⟩
 rcases h4 with h4 |⟨g,cs,fs,rfl,hB,hc,hP,hF⟩
 ·exact .inl h4
 ·have hg:=hF.2 g (by simp)
  refine .inr ⟨g,cs,fs,rfl,(hk g hg.1 hg.2 hB.lt).trans hB,hc,⟨hP.1,fun i hi=>(hP.2 i hi).keep (fun _ _=>rfl) hs fun b hb=>?_⟩,hF⟩
  have hm:=hF.2 b (List.mem_cons_of_mem _ (mem_flatten_pix hb))
  exact hk b hm.1 hm.2 ((hP.2 i hi).lt b hb)
theorem OwPZ.bl (h:OwPZ TI TP lo hi w A n c l) (hb:Bl w W):OwPZ TI TP lo hi W A n c l:=h.keep hb.size fun b _ _ hl=>Below.block hb b hl
theorem OwPZ.ob (h:OwPZ TI TP lo hi w A n c l) (ho:Ob bs w W) (hd:∀b∈bs,b<lo∨hi≤b):OwPZ TI TP lo hi W A n c l :=
 h.keep ho.size fun b h1 h2 hl=>ho.block b hl fun hm=>by have:=hd b hm;omega
theorem OwPZ.low (h:OwPZ TI TP lo hi w A n c l) (h1:lo'≤lo) (h2:hi≤hi'):OwPZ TI TP lo' hi' w A n c l:=by
 obtain⟨a1,a2,a3,a4⟩:=h
 refine⟨a1,a2,a3,?_⟩
 rcases a4 with h4 |⟨g,cs,fs,rfl,hB,hc,hP,hF⟩
 ·exact .inl h4
 ·exact .inr ⟨g,cs,fs,rfl,hB,hc,hP,hF.mono h1 h2⟩
end
end
section
open Go.RowKit
def OwMZ (lo hi:Nat) (w:World) (A:Option Addr) (n c:Nat) (B:Option Addr) (m d:Nat) (x:MeD):Prop :=
 x.points.length = n ∧ x.tris.length = m ∧ n ≤ c ∧ m ≤ d ∧ n ≤ 1048576 ∧ m ≤ 1048576 ∧ ((n = 0 ∧ m = 0) ∨
  ∃g g' cs cs' fs,A=some ⟨g,0,none⟩∧B=some ⟨g',0,none⟩∧Blk w g 56 cs∧Blk w g' 58 cs'∧n*6≤cs.size∧m*5≤cs'.size∧PtsIn 3 w cs x.points n fs∧TrsIn cs' x.tris m∧Fp lo hi (g::g'::fs.flatten))
section
variable {lo hi:Nat}{w W:World}{A:Option Addr}{n c:Nat}{B:Option Addr}{m d:Nat}{x:MeD}
theorem OwMZ.bl (h:OwMZ lo hi w A n c B m d x) (hb:Bl w W):OwMZ lo hi W A n c B m d x:=by
 obtain⟨h1,h2,h3,h4,h5,h6,h7⟩:=h
 refine⟨h1,h2,h3,h4,h5,h6,?_⟩
 rcases h7 with h7 |⟨g,g',cs,cs',fs,rfl,rfl,a1,a2,a3,a4,a5,a6,a7⟩
 ·exact .inl h7
 ·refine .inr ⟨g,g',cs,cs',fs,rfl,rfl,a1.bl hb,a2.bl hb,a3,a4,a5.bl hb fun b hm=>?_,a6,a7⟩
  obtain⟨l,hl',hb'⟩:=List.mem_flatten.1 hm
  obtain⟨i,hi,rfl⟩:=List.getElem_of_mem hl'
  exact(a5.2 i (by rw[←a5.1];exact hi)).lt b (by simpa [pix,hi]using hb')
theorem OwMZ.low {lo' hi':Nat}(h:OwMZ lo hi w A n c B m d x) (h1:lo'≤lo) (h2:hi≤hi'):OwMZ lo' hi' w A n c B m d x:=by
 obtain⟨b1,b2,b3,b4,b5,b6,h7⟩:=h
 refine⟨b1,b2,b3,b4,b5,b6,?_⟩
 rcases h7 with h7 |⟨g,g',cs,cs',fs,rfl,rfl,a1,a2,a3,a4,a5,a6,a7⟩
 ·exact .inl h7
 ·exact .inr ⟨g,g',cs,cs',fs,rfl,rfl,a1,a2,a3,a4,a5,a6,a7.mono h1 h2⟩
theorem OwMZ.keep (h:OwMZ lo hi w A n c B m d x) (hs:w.heap.size≤W.heap.size) (hk:∀b,lo≤b→b<hi→b<w.heap.size→W.heap[b]?=w.heap[b]?):OwMZ lo hi W A n c B m d x:=by
 obtain⟨b1,b2,b3,b4,b5,b6,h7⟩:=h
 refine⟨b1,b2,b3,b4,b5,b6,?_⟩
 rcases h7 with h7 |⟨g,g',cs,cs',fs,rfl,rfl,a1,a2,a3,a4,a5,a6,a7⟩
 ·exact .inl h7
 ·have hg:=a7.2 g (by simp)
  have hg':=a7.2 g' (by simp)
  refine .inr ⟨g,g',cs,cs',fs,rfl,rfl,(hk g hg.1 hg.2 a1.lt).trans a1,(hk g' hg'.1 hg'.2 a2.lt).trans a2,a3,a4,⟨a5.1,fun i hi=>(a5.2 i hi).keep (fun _ _=>rfl) hs fun b hb=>?_⟩,a6,a7⟩
  have hm:=a7.2 b (List.mem_cons_of_mem _ (List.mem_cons_of_mem _ (mem_flatten_pix hb)))
  exact hk b hm.1 hm.2 ((a5.2 i hi).lt b hb)
theorem OwMZ.set (h:OwMZ lo hi w A n c B m d x) {q:Addr}(hq:q.block<lo∨hi≤q.block) (u:Value):OwMZ lo hi (w.setCell q u) A n c B m d x :=
 h.keep (by simp) fun b h1 h2 _=>Below.heap_setCell w q u b (by omega)
end
end
section
open Go.RowKit
def KeepE {α:Type}(size:Nat) (El:World→Array Value→Nat→α→List Nat→Prop):Prop :=
 ∀(w W:World) (cs cs':Array Value) (i i':Nat) (x:α) (bs:List Nat),El w cs i x bs→(∀j,j<size→cs'[i'+j]?=cs[i+j]?)→w.heap.size≤W.heap.size→(∀b∈bs,W.heap[b]?=w.heap[b]?)→El W cs' i' x bs
def AppN (N:List Nat→Prop):Prop:=N []∧∀a b,N a→N b→(∀x∈a,∀y∈b,x≠y)→N (a++b)
theorem appN_nodup:AppN List.Nodup:=⟨List.nodup_nil,fun _ _ h k d=>List.nodup_append.2 ⟨h,k,d⟩⟩
def AnyN (_:List Nat):Prop:=True
theorem appN_any:AppN AnyN:=⟨trivial,fun _ _ _ _ _=>trivial⟩
def RowG {α:Type} [Inhabited α] (N:List Nat→Prop) (TP:TypeId) (size:Nat) (El:World→Array Value→Nat→α→List Nat→Prop) (lo hi:Nat) (w:World) (v:Value) (l:List α):Prop :=
 ∃ cells fs, w.ownsRow lo TP size v l.length cells ∧ (∀ g, v.ownBlock = some g → g < hi) ∧ fs.length = l.length ∧ (∀ i, i < l.length → El w cells.toArray (i * size) (pix l i) (pix fs i)) ∧
  (∀b∈fs.flatten,lo≤b∧b<hi∧v.ownBlock≠some b)∧N fs.flatten∧hi≤w.heap.size
section
variable {α:Type} [Inhabited α] {N:List Nat→Prop}{TP:TypeId}{size lo hi:Nat}{El:World→Array Value→Nat→α→List Nat→Prop}{w W:World}{v:Value}{l:List α}
theorem RowG.nil (hN:AppN N) (w:World) (h2:hi≤w.heap.size):RowG N TP size El lo hi w (.slice none 0 0) ([]:List α) :=
 ⟨[],[],World.ownsRow_nil _ _ _ _,(fun g h=>by cases h),rfl,(fun i hi=>by simp at hi),(fun b hb=>by simp at hb),hN.1,h2⟩
theorem RowG.empty (hN:AppN N) (w:World) (h1:lo≤w.heap.size):RowG N TP size El lo (w.heap.size+1) (w.alloc (.cells #[] TP)) (.slice (some ⟨w.heap.size,0,none⟩) 0 0) ([]:List α) :=
 ⟨[],[],World.ownsRow_made w #[] 0 h1 (Nat.zero_le _) (by simp),(fun g h=>by injection h with h;simp only at h;omega),rfl,(fun i hi=>by simp at hi),(fun b hb=>by simp at hb),hN.1,by simp⟩
theorem RowG.keep (hk:KeepE size El) (h:RowG N TP size El lo hi w v l) (hs:w.heap.size≤W.heap.size) (hb:∀b,lo≤b→b<hi→W.heap[b]?=w.heap[b]?):RowG N TP size El lo hi W v l:=by
 obtain⟨cells,fs,h1,h2,h3,h4,h5,h6,h7⟩:=h
 refine⟨cells,fs,⟨h1.1,?_⟩,h2,h3,fun i hi=>hk _ _ _ _ _ _ _ _ (h4 i hi) (fun _ _=>rfl) hs fun b hm=>?_,h5,h6,Nat.le_trans h7 hs⟩
 ·rcases h1.2 with h |⟨g,cap,cur,rfl,hg,hh,r⟩
  ·exact .inl h
  ·exact .inr ⟨g,cap,cur,rfl,hg,(hb g hg (h2 g rfl)).trans hh,r⟩
 ·have:=h5 b (mem_flatten_pix hm)
  exact hb b this.1 this.2.1
theorem RowG.bl (hk:KeepE size El) (h:RowG N TP size El lo hi w v l) (hb:Bl w W):RowG N TP size El lo hi W v l :=
 h.keep hk hb.size fun b _ h2=>Below.block hb b (Nat.lt_of_lt_of_le h2 (by obtain⟨_,_,_,_,_,_,_,_,h7⟩:=h;exact h7))
theorem RowG.hiLe (h:RowG N TP size El lo hi w v l):hi≤w.heap.size:=by
 obtain⟨_,_,_,_,_,_,_,_,h7⟩:=h
 exact h7
end
theorem pixs_last {fs:List (List Nat)}{bs:List Nat}{n:Nat}(h:fs.length=n):pix (fs++[bs]) n=bs:=by subst h;exact pix_append_last
theorem wpList_append_rowX {P:Program}{α:Type} [Inhabited α] {N:List Nat→Prop}(hN:AppN N) {size bytes:Nat}{El:World→Array Value→Nat→α→List Nat→Prop}(hk:KeepE size El) {TP t:TypeId}{z:Value}
  (hinfo:(P.info? TP).map (fun i=>(i.zero,i.size,i.bytes))=some (some z,size,bytes)) (hzs:z.cells.size=size) (hsz:0<size) (hby:bytes≤4096) (ht:P.underlying t=some (.slice TP))
  {W:World}{news:Array Value}{p:α}{bs:List Nat}{lo hi:Nat}{l:List α}{ops:Array Oper}{rest:List Oper}{o:Oper}{a:Act}{Q:Exit→Act→World→Prop}(hgd:o.guard=none) (s x:Operand)
  (ho:o.op=.call { callee:=.builtin .append,args:=#[s,x],argTypes:=#[t,t] }) (v:Value) (hs:a.eval s=v) (hrow:RowG N TP size El lo hi W v l)
  (hel:El W news 0 p bs) (hnl:news.size=size) (h1:∀u∈news.toList,u.oneCell'=true) (hbs:∀b∈bs,hi≤b∧b<W.heap.size) (hNb:N bs) (hlh:lo≤hi)
  (c:Nat) (hx:a.eval x=.slice (some ⟨W.heap.size,0,none⟩) 1 c) (hlen:l.length≤1048576) (w0:World) (hb:Bl w0 W) (h0:w0.heap.size≤lo)
  (h:∀v' w',RowG N TP size El lo w'.heap.size w' v' (l++[p])→Bl w0 w'→(v'=.slice none 0 0→False)→(∀g,g<W.heap.size→v.ownBlock≠some g→w'.heap[g]?=W.heap[g]?∧v'.ownBlock≠some g)→wpList P ops Q rest (a.put o.dst v') w'):wpList P ops Q (o::rest) a (W.alloc (.cells news TP)):=by
 obtain⟨i0,hi0,hz0,hz1,hz2⟩:=info_parts hinfo
 obtain⟨cells,fs,r1,r2,r3,r4,r5,r6,r7⟩:=hrow
 have ro:=World.ownsRow.alloc r1 (.cells news TP)
 have hnew:(W.alloc (.cells news TP)).heap[W.heap.size]?=some (.cells news TP (0,0)):=heap_alloc_new W _
 have hsz2:(W.alloc (.cells news TP)).heap.size=W.heap.size+1:=by simp
 have hm:(l.length+1)*bytes≤140737488355328:=Nat.le_trans (Nat.mul_le_mul (show l.length+1≤1048577 by omega) hby) (by omega)
 refine wpList_append_own_at _ hgd s x t ho lo TP i0 z size bytes ht hi0 hz0 hz1 hz2 hzs hsz v l.length cells hs ro ⟨W.heap.size,0,none⟩ 1 c news.toList hx (by simpa using hnl) (World.news_of_block hnew) h1 (by unfold maxLen;omega) hm (by omega) ?_
 intro v' w' g1 g2 g3 g4
 have hne:v'≠.slice none 0 0:=fun e=>by have:=(g3.1 e).2;omega
 have hws:=g2.size
 have hold:∀b,b<W.heap.size→v.ownBlock≠some b→w'.heap[b]?=W.heap[b]?:=fun b hb1 hb2=>(g2.block b (by omega) (fun e=>hb2 e.symm)).trans (Below.heap_alloc W _ b hb1)
 have hown:∀ b,v'.ownBlock=some b→(v.ownBlock=some b∨b=W.heap.size+1):=by
  intro b e
  rcases g4 with g4|g4
  ·exact .inl (by rw[←g4];exact e)
  ·rw[g4]at e;injection e with e;right;omega
 have hvl:∀b,v'.ownBlock=some b→lo≤b∧b<w'.heap.size:=fun b e=>by have:=World.ownsRow.lt g1 b e;exact this
 refine h v' w' ⟨cells++news.toList,fs++[bs],by simpa using g1,fun g e=>(hvl g e).2,by simp[r3],fun i hi'=>?_,fun b hm'=>?_,?_,Nat.le_refl _⟩ ((hb.alloc _).grown g2 (fun k e=>by have:=(World.ownsRow.lt r1 k e).1;omega)) hne (fun g hg hn=>⟨hold g hg hn,fun e=>by rcases hown g e with e|e;exact hn e;omega⟩)
 ·have hcl:=r1.1
  rw[List.length_append,List.length_singleton]at hi'
  rcases Nat.lt_succ_iff_lt_or_eq.1 hi' with hi'|rfl
  ·rw[pix_append_left hi',pix_append_left (by rw[r3];exact hi')]
   refine hk _ _ _ _ _ _ _ _ (r4 i hi') (fun j hj=>?_) (by omega) fun b hb'=>?_
   ·have:i * size+j < cells.length:=by
     rw[hcl]
     have:(i+1)*size≤l.length*size:=Nat.mul_le_mul_right _ hi'
     rw[Nat.succ_mul]at this
     omega
    simp[List.getElem?_append_left this]
   ·have:=r5 b (mem_flatten_pix hb')
    exact hold b (by omega) this.2.2
  ·rw[pix_append_last,pixs_last r3]
   refine hk _ _ _ _ _ _ _ _ hel (fun j hj=>?_) (by omega) fun b hb'=>?_
   ·have:(cells ++ news.toList)[l.length * size+j]?=news.toList[j]?:=by
     rw[List.getElem?_append_right (by rw[hcl];omega),hcl]
     congr 1;omega
    simpa using this
   ·have:=hbs b hb'
    exact hold b this.2 fun e=>by have:=r2 b e;omega
 ·rw[List.flatten_append,List.mem_append]at hm'
  rcases hm' with hm'|hm'
  ·have:=r5 b hm'
   refine⟨this.1,by omega,fun e=>?_⟩
   rcases hown b e with e|e
   ·exact this.2.2 e
   ·omega
  ·have:=hbs b (by simpa using hm')
   refine⟨by omega,by omega,fun e=>?_⟩
   rcases hown b e with e|e
   ·have:=r2 b e;omega
   ·omega
 ·rw[List.flatten_append]
  refine hN.2 _ _ r6 (by simpa using hNb) fun x hx' y hy e=>?_
  have a1:=r5 x hx'
  have a2:=hbs y (by simpa using hy)
  omega
theorem ptIn_keep (T:TypeId):KeepE 6 (PtIn T):=by
 intro w W cs cs' i i' x bs h hc hs hb
 obtain⟨s,A,n,c,B,m,d,t,C,j,e,D,k,f,b1,b2,⟨h0,h1,h2,h3,h4,h5⟩,hx,hy,rfl⟩:=h
 refine⟨s,A,n,c,B,m,d,t,C,j,e,D,k,f,b1,b2,⟨?_,?_,?_,?_,?_,?_⟩,hx.keep hs fun b hm=>hb b (by simp[hm]),hy.keep hs fun b hm=>hb b (by simp[hm]),rfl⟩
 ·rw[←h0];exact hc 0 (by omega)
 ·rw[←h1];exact hc 1 (by omega)
 ·rw[←h2];exact hc 2 (by omega)
 ·rw[←h3];exact hc 3 (by omega)
 ·rw[←h4];exact hc 4 (by omega)
 ·rw[←h5];exact hc 5 (by omega)
abbrev RowP (N:List Nat→Prop) (lo hi:Nat) (w:World) (v:Value) (l:List PtD):Prop:=RowG N 56 6 (PtIn 3) lo hi w v l
section
variable {N:List Nat→Prop}{lo hi:Nat}{w W:World}{v:Value}{l:List PtD}
theorem RowP.out (h:RowP N lo hi w v l):(v=.slice none 0 0∧l=[])∨∃g c cs fs,v=.slice (some ⟨g,0,none⟩) l.length c∧l.length≤c∧Blk w g 56 cs∧l.length*6≤cs.size∧PtsIn 3 w cs l l.length fs∧(∀b∈g::fs.flatten,lo≤b∧b<hi)∧g∉fs.flatten∧N fs.flatten:=by
 obtain⟨cells,fs,r1,r2,r3,r4,r5,r6,r7⟩:=h
 rcases r1.2 with ⟨rfl,h0⟩ |⟨g,cap,cur,rfl,hg,hh,hn,hcap,hcs,ht⟩
 ·exact .inl ⟨rfl,List.length_eq_zero_iff.1 h0⟩
 ·have hlen:l.length*6≤cur.size:=by rw[hcs];exact Nat.mul_le_mul_right _ hn
  refine .inr ⟨g,cap,cur,fs,rfl,hn,hh,hlen,⟨r3,fun i hi=>?_⟩,fun b hb=>?_,fun hm=>(r5 g hm).2.2 rfl,r6⟩
  ·refine ptIn_keep _ _ _ _ _ _ _ _ _ (r4 i hi) (fun j hj=>?_) (Nat.le_refl _) fun _ _=>rfl
   rw[←ht]
   have:i*6+j<l.length*6:=by omega
   simp[this]
  ·rcases List.mem_cons.1 hb with rfl|hb
   ·exact⟨hg,r2 _ rfl⟩
   ·exact⟨(r5 b hb).1,(r5 b hb).2.1⟩
theorem RowP.rd (h:RowP N lo hi w v l) (hl:l.length≤1048576):∃A c,v=.slice A l.length c∧RdPS w A l.length c l:=by
 rcases RowP.out h with ⟨rfl,rfl⟩ |⟨g,c,cs,fs,rfl,h1,h2,h3,h4,_⟩
 ·exact⟨none,0,rfl,RdS.nil _ _ _⟩
 ·exact⟨_,c,rfl,h4.rd h2 rfl (by omega) h1⟩
theorem RowP.own (h:RowP List.Nodup lo hi w v l) (hl:l.length≤1048576):∃A c,v=.slice A l.length c∧OwPZ 3 56 lo hi w A l.length c l:=by
 rcases RowP.out h with ⟨rfl,rfl⟩ |⟨g,c,cs,fs,rfl,h1,h2,h3,h4,h5,h6,h7⟩
 ·exact⟨none,0,rfl,rfl,Nat.le_refl _,Nat.zero_le _,.inl rfl⟩
 ·exact⟨_,c,rfl,rfl,h1,hl,.inr ⟨g,cs,fs,rfl,h2,h3,h4,List.nodup_cons.2 ⟨h6,h7⟩,h5⟩⟩
end
def OwPN (N:List Nat→Prop) (T:TypeId) (b0:Nat) (w:World) (s:Bool) (A:Option Addr) (n c:Nat) (B:Option Addr) (m d:Nat) (t:Bool) (C:Option Addr) (i e:Nat) (D:Option Addr) (j f:Nat) (p:PtD):Prop :=
 ∃b1 b2,FtR T w s A n c B m d p.x b1∧FtR T w t C i e D j f p.y b2∧(∀b∈b1++b2,b0≤b∧b<w.heap.size)∧N (b1++b2)
theorem OwPN.of {T:TypeId}{b0:Nat}{w:World}{s:Bool}{A:Option Addr}{n c:Nat}{B:Option Addr}{m d:Nat}{t:Bool}{C:Option Addr}{i e:Nat}{D:Option Addr}{j f:Nat}{p:PtD}(h:OwP T b0 w s A n c B m d t C i e D j f p):OwPN List.Nodup T b0 w s A n c B m d t C i e D j f p:=by
 obtain⟨b1,b2,h1,h2,hf⟩:=h
 exact⟨b1,b2,h1,h2,hf.2,hf.1⟩
theorem OwPN.q {T:TypeId}{b0:Nat}{w:World}{s:Bool}{A:Option Addr}{n c:Nat}{B:Option Addr}{m d:Nat}{t:Bool}{C:Option Addr}{i e:Nat}{D:Option Addr}{j f:Nat}{p:PtD}(h:OwP T b0 w s A n c B m d t C i e D j f p):OwPN AnyN T b0 w s A n c B m d t C i e D j f p:=by
 obtain⟨b1,b2,h1,h2,hf⟩:=h
 exact⟨b1,b2,h1,h2,hf.2,trivial⟩
theorem wpList_append_ptX {N:List Nat→Prop}(hN:AppN N) {W:World}{s:Bool}{A:Option Addr}{n c:Nat}{B:Option Addr}{m d:Nat}{t:Bool}{C:Option Addr}{i e:Nat}{D:Option Addr}{j f:Nat}{p:PtD}{lo hi b0:Nat}{l:List PtD}{ops:Array Oper}{rest:List Oper}{o:Oper}{a:Act}{Q:Exit→Act→World→Prop}(hgd:o.guard=none) (s1 x1:Operand)
  (ho:o.op=.call { callee:=.builtin .append,args:=#[s1,x1],argTypes:=#[23,23] }) (v:Value) (hs:a.eval s1=v) (hrow:RowP N lo hi W v l)
  (hpt:OwPN N 3 b0 W s A n c B m d t C i e D j f p) (hb0:hi≤b0) (hlh:lo≤hi) (c1:Nat) (hx:a.eval x1=.slice (some ⟨W.heap.size,0,none⟩) 1 c1) (hlen:l.length≤1048576) (w0:World) (hb:Bl w0 W) (h0:w0.heap.size≤lo)
  (h:∀v' w',RowP N lo w'.heap.size w' v' (l++[p])→Bl w0 w'→(∀g,g<W.heap.size→v.ownBlock≠some g→w'.heap[g]?=W.heap[g]?∧v'.ownBlock≠some g)→wpList Tryz.prog ops Q rest (a.put o.dst v') w'):wpList Tryz.prog ops Q (o::rest) a (W.alloc (.cells #[.bool s,.slice A n c,.slice B m d,.bool t,.slice C i e,.slice D j f] 56)):=by
 obtain⟨b1,b2,f1,f2,f3,f4⟩:=hpt
 refine wpList_append_rowX hN (ptIn_keep 3) info_pt (by rfl) (by omega) (by omega) Tryz.underlying23 hgd s1 x1 ho v hs hrow (p:=p) (bs:=b1++b2) ⟨_,_,_,_,_,_,_,_,_,_,_,_,_,_,b1,b2,⟨rfl,rfl,rfl,rfl,rfl,rfl⟩,f1,f2,rfl⟩ rfl (by simp[Value.oneCell']) (fun b hm=>⟨Nat.le_trans hb0 (f3 b hm).1,(f3 b hm).2⟩) f4 hlh c1 hx hlen w0 hb h0 fun v' w' g1 g2 _ g4=>h v' w' g1 g2 g4
end
section
open Go.RowKit
theorem RtIn.lt {T:TypeId}{w:World}{cs:Array Value}{i:Nat}{r:RatD}{bs:List Nat}(h:RtIn T w cs i r bs):∀b∈bs,b<w.heap.size:=by
 obtain⟨s,A,n,c,B,m,d,_,h⟩:=h
 exact h.lt
def OwRX (TI TR:TypeId) (b0:Nat) (w:World) (A:Option Addr) (n c:Nat) (l:List RatD):Prop :=
 ∃g cs fs,A=some ⟨g,0,none⟩∧b0≤g∧l.length=n∧n≤c∧n≤1048576∧Blk w g TR cs∧cs.size=n*3∧RtsIn TI w cs l n fs∧Fp (g+1) w.heap.size fs.flatten
theorem OwRX.rd {TI TR:TypeId}{b0:Nat}{w:World}{A:Option Addr}{n c:Nat}{l:List RatD}(h:OwRX TI TR b0 w A n c l):RdRS w A n c l:=by
 obtain⟨g,cs,fs,rfl,h1,h2,h3,h4,h5,h6,h7,h8⟩:=h
 exact h7.rd h5 h2 (by omega) h3
theorem OwRX.bl {TI TR:TypeId}{b0:Nat}{w W:World}{A:Option Addr}{n c:Nat}{l:List RatD}(h:OwRX TI TR b0 w A n c l) (hb:Bl w W):OwRX TI TR b0 W A n c l:=by
 obtain⟨g,cs,fs,rfl,h1,h2,h3,h4,h5,h6,h7,h8⟩:=h
 exact⟨g,cs,fs,rfl,h1,h2,h3,h4,h5.bl hb,h6,h7.bl hb (fun b hm=>(h8.2 b hm).2),h8.mono (Nat.le_refl _) hb.size⟩
theorem OwRX.ob {TI TR:TypeId}{b0:Nat}{w W:World}{A:Option Addr}{n c:Nat}{l:List RatD}{bs:List Nat}(h:OwRX TI TR b0 w A n c l) (ho:Ob bs w W) (hd:∀b∈bs,b<b0):OwRX TI TR b0 W A n c l:=by
 obtain⟨g,cs,fs,rfl,h1,h2,h3,h4,h5,h6,h7,h8⟩:=h
 refine⟨g,cs,fs,rfl,h1,h2,h3,h4,h5.ob ho (fun hm=>by have:=hd g hm;omega),h6,⟨h7.1,fun i hi=>(h7.2 i hi).keep (fun _ _=>rfl) ho.size fun b hb=>?_⟩,h8.mono (Nat.le_refl _) ho.size⟩
 have hm:=h8.2 b (mem_flatten_pix hb)
 exact ho.block b hm.2 fun hx=>by have:=hd b hx;omega
end
section
open Go.RowKit
def FtRS (TI TR:TypeId) (w:World) (A:Option Addr) (n c:Nat) (l:List RatD) (bs:List Nat):Prop :=
 l.length=n∧n≤c∧n≤1048576∧((n=0∧bs=[])∨∃g cs fs,A=some ⟨g,0,none⟩∧Blk w g TR cs∧n*3≤cs.size∧RtsIn TI w cs l n fs∧bs=g::fs.flatten)
def RsAt (w:World) (p:Addr) (l:List RatD):Prop:=∃A n c,w.cell? p=some (.slice A n c)∧RdRS w A n c l
theorem RsAt.bl {w W:World}{p:Addr}{l:List RatD}(h:RsAt w p l) (hp:p.block<w.heap.size) (hb:Bl w W):RsAt W p l:=by
 obtain⟨A,n,c,h0,h1⟩:=h
 exact⟨A,n,c,by rw[hb.cellOf hp];exact h0,h1.bl hb⟩
abbrev RdRSS:=RdS 1 RsAt
theorem RdRSS.bl {w W:World}{A:Option Addr}{n c:Nat}{l:List (List RatD)}(h:RdRSS w A n c l) (hb:Bl w W):RdRSS W A n c l:=RdS.bl (fun h hp hb=>h.bl hp hb) h hb
def RsIn (TI TR:TypeId) (w:World) (cs:Array Value) (i:Nat) (l:List RatD) (bs:List Nat):Prop :=
 ∃A n c,cs[i]?=some (.slice A n c)∧FtRS TI TR w A n c l bs
theorem flat_pix {fs:List (List Nat)}{b:Nat}(h:b∈fs.flatten):∃k,k<fs.length∧b∈pix fs k:=by
 obtain⟨l,hl,hb⟩:=List.mem_flatten.1 h
 obtain⟨k,hk,rfl⟩:=List.getElem_of_mem hl
 exact⟨k,hk,by simpa [pix,hk]using hb⟩
section
variable {TI TR TS:TypeId}{w W:World}{A:Option Addr}{n c i lo hi lo' hi':Nat}{cs cs':Array Value}{l:List RatD}{L:List (List RatD)}{bs xs:List Nat}
theorem FtRS.rd (h:FtRS TI TR w A n c l bs):RdRS w A n c l:=by
 obtain⟨h1,h2,h3,h4⟩:=h
 rcases h4 with ⟨h4,_⟩ |⟨g,cs,fs,rfl,hB,hc,hP,_⟩
 ·subst h4
  obtain rfl:=List.length_eq_zero_iff.1 h1
  exact RdS.nil _ _ _
 ·exact hP.rd hB h1 (by omega) h2
theorem FtRS.lt (h:FtRS TI TR w A n c l bs):∀b∈bs,b<w.heap.size:=by
 obtain⟨h1,h2,h3,h4⟩:=h
 rcases h4 with ⟨_,rfl⟩ |⟨g,cs,fs,rfl,hB,hc,hP,rfl⟩
 ·intro b hb;cases hb
 ·intro b hb
  rcases List.mem_cons.1 hb with rfl|hb
  ·exact hB.lt
  ·obtain⟨k,hk,hm⟩:=flat_pix hb
   exact(hP.2 k (by rw[←hP.1];exact hk)).lt b hm
theorem FtRS.keep (h:FtRS TI TR w A n c l bs) (hs:w.heap.size≤W.heap.size) (hk:∀b∈bs,W.heap[b]?=w.heap[b]?):FtRS TI TR W A n c l bs:=by
 obtain⟨h1,h2,h3,h4⟩:=h
 refine⟨h1,h2,h3,?_⟩
 rcases h4 with h4 |⟨g,cs,fs,rfl,hB,hc,hP,rfl⟩
 ·exact .inl h4
 ·exact .inr ⟨g,cs,fs,rfl,(hk g (by simp)).trans hB,hc,⟨hP.1,fun i hi=>(hP.2 i hi).keep (fun _ _=>rfl) hs fun b hb=>hk b (List.mem_cons_of_mem _ (mem_flatten_pix hb))⟩,rfl⟩
theorem RsIn.lt (h:RsIn TI TR w cs i l bs):∀b∈bs,b<w.heap.size:=by
 obtain⟨A,n,c,_,h⟩:=h
 exact h.lt
theorem RsIn.keep (h:RsIn TI TR w cs i l bs) (hc:cs'[i]?=cs[i]?) (hs:w.heap.size≤W.heap.size) (hk:∀b∈bs,W.heap[b]?=w.heap[b]?):RsIn TI TR W cs' i l bs:=by
 obtain⟨A,n,c,h0,h⟩:=h
 exact⟨A,n,c,hc.trans h0,h.keep hs hk⟩
def OwSZ (TI TR TS:TypeId) (lo hi:Nat) (w:World) (A:Option Addr) (n c:Nat) (L:List (List RatD)):Prop :=
 L.length=n∧n≤c∧n≤1048576∧(n=0∨∃g cs fs,A=some ⟨g,0,none⟩∧Blk w g TS cs∧n≤cs.size∧fs.length=n∧(∀i,i<n→RsIn TI TR w cs i (pix L i) (pix fs i))∧Fp lo hi (g::fs.flatten))
theorem rss_rd {g:Nat}{fs:List (List Nat)}(hB:Blk w g TS cs) (hl:L.length=n) (hn:n≤c) (h3:n≤1048576) (hP:∀i,i<n→RsIn TI TR w cs i (pix L i) (pix fs i)):RdRSS w (some ⟨g,0,none⟩) n c L:=by
 refine⟨hl,hn,by omega,fun k hk=>⟨_,rfl,hB.lt,?_⟩⟩
 obtain⟨A,n',c',h0,h1⟩:=hP k hk
 refine⟨A,n',c',?_,h1.rd⟩
 rw[Nat.mul_one,Addr.add_lit,Nat.zero_add]
 exact(hB.cell k).trans h0
theorem OwSZ.rd (h:OwSZ TI TR TS lo hi w A n c L):RdRSS w A n c L:=by
 obtain⟨h1,h2,h3,h4⟩:=h
 rcases h4 with h4 |⟨g,cs,fs,rfl,hB,hc,hf,hP,hF⟩
 ·subst h4
  obtain rfl:=List.length_eq_zero_iff.1 h1
  exact RdS.nil _ _ _
 ·exact rss_rd hB h1 h2 h3 hP
theorem OwSZ.keep (h:OwSZ TI TR TS lo hi w A n c L) (hs:w.heap.size≤W.heap.size) (hk:∀b,lo≤b→b<hi→b<w.heap.size→W.heap[b]?=w.heap[b]?):OwSZ TI TR TS lo hi W A n c L:=by
 obtain⟨h1,h2,h3,h4⟩:=h
 refine⟨h1,h2,h3,?_⟩
 rcases h4 with h4 |⟨g,cs,fs,rfl,hB,hc,hf,hP,hF⟩
 ·exact .inl h4
 ·have hg:=hF.2 g (by simp)
  refine .inr ⟨g,cs,fs,rfl,(hk g hg.1 hg.2 hB.lt).trans hB,hc,hf,fun i hi=>(hP i hi).keep rfl hs fun b hb=>?_,hF⟩
  have hm:=hF.2 b (List.mem_cons_of_mem _ (mem_flatten_pix hb))
  exact hk b hm.1 hm.2 ((hP i hi).lt b hb)
theorem OwSZ.bl (h:OwSZ TI TR TS lo hi w A n c L) (hb:Bl w W):OwSZ TI TR TS lo hi W A n c L:=h.keep hb.size fun b _ _ hl=>Below.block hb b hl
theorem OwSZ.ob (h:OwSZ TI TR TS lo hi w A n c L) (ho:Ob bs w W) (hd:∀b∈bs,b<lo∨hi≤b):OwSZ TI TR TS lo hi W A n c L :=
 h.keep ho.size fun b h1 h2 hl=>ho.block b hl fun hm=>by have:=hd b hm;omega
theorem OwSZ.low (h:OwSZ TI TR TS lo hi w A n c L) (h1:lo'≤lo) (h2:hi≤hi'):OwSZ TI TR TS lo' hi' w A n c L:=by
 obtain⟨a1,a2,a3,a4⟩:=h
 refine⟨a1,a2,a3,?_⟩
 rcases a4 with h4 |⟨g,cs,fs,rfl,hB,hc,hf,hP,hF⟩
 ·exact .inl h4
 ·exact .inr ⟨g,cs,fs,rfl,hB,hc,hf,hP,hF.mono h1 h2⟩
end
end
section
open Go.RowKit
abbrev RowS (N:List Nat→Prop) (lo hi:Nat) (w:World) (v:Value) (l:List (List RatD)):Prop:=RowG N 100 1 (RsIn 3 54) lo hi w v l
section
variable {N:List Nat→Prop}{lo hi:Nat}{w W:World}{v:Value}{l:List RatD}{L:List (List RatD)}
theorem RowS.own (h:RowS List.Nodup lo hi w v L) (hl:L.length≤1048576):∃A c,v=.slice A L.length c∧OwSZ 3 54 100 lo hi w A L.length c L:=by
 obtain⟨cells,fs,r1,r2,r3,r4,r5,r6,r7⟩:=h
 rcases r1.2 with ⟨rfl,h0⟩ |⟨g,cap,cur,rfl,hg,hh,hn,hcap,hcs,ht⟩
 ·exact⟨none,0,by rw[h0],rfl,by rw[h0];exact Nat.le_refl _,hl,.inl h0⟩
 ·have hlen:L.length≤cur.size:=by rw[hcs];omega
  have hgm:g∉fs.flatten:=fun hm=>(r5 g hm).2.2 rfl
  refine⟨_,cap,rfl,rfl,hn,hl,.inr ⟨g,cur,fs,rfl,hh,hlen,r3,fun i hi=>?_,List.nodup_cons.2 ⟨hgm,r6⟩,fun b hb=>?_⟩⟩
  ·have h1:=r4 i hi
   rw[Nat.mul_one]at h1
   refine h1.keep ?_ (Nat.le_refl _) fun _ _=>rfl
   rw[←ht]
   simp[hi]
  ·rcases List.mem_cons.1 hb with rfl|hb
   ·exact⟨hg,r2 _ rfl⟩
   ·exact⟨(r5 b hb).1,(r5 b hb).2.1⟩
end
end
end Go.Proofs.YtmkcacgmnnlddaaGreat
