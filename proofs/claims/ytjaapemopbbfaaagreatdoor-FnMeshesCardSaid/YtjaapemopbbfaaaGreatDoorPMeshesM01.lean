import Derived.Test.YtjaapemopbbfaaaGreatDoorRows
import Derived.WalkKit
import Derived.WalkSpells
import Derived.WalkLawsBesides
import Derived.Lib.Hide
import Derived.Laws.OwnMore
import Derived.Deep.AppendLies
import Derived.Deep.Draws
import Derived.Deep.QuietTactic
import Derived.BigQuiet
import Derived.Maps.AppendAt
import Derived.Deep.RegionHeld3
import Derived.StillTailTactics
import Init.Data.List
namespace Go.Proofs.YtjaapemopbbfaaaGreatDoor
open Go.RowKit
def Bl (w w':World):Prop:=Below w.heap.size w w'
section
variable {w W w1:World}
theorem Bl.refl (w:World):Bl w w:=Below.refl _ _
theorem Bl.size (h:Bl w W):w.heap.size<=W.heap.size:=Below.size h
theorem Bl.alloc (h:Bl w W) (o:Obj):Bl w (W.alloc o):=Below.alloc h h.size o
theorem Bl.drew (h:Bl w W):Bl w W.drew:=Below.drew h
theorem Bl.drewN (h:Bl w W) (n:Nat):Bl w (W.drewN n):=Below.trans h ⟨rfl,rfl,rfl,Nat.le_refl _,λ_ _=>rfl⟩
theorem Bl.next (h:Bl w W) (hb:Bl W w1):Bl w w1:=Below.trans h (Below.mono hb h.size)
theorem Bl.set (h:Bl w W) {p:Addr}(hp:w.heap.size<=p.block) (u:Value):Bl w (W.setCell p u):=Below.setCell h hp u
theorem Bl.grown {row:Option Nat}(h:Bl w W) (hg:W.grownBy w1 row) (hr:∀k,row=some k->w.heap.size<=k):Bl w w1:=Below.grown h hg h.size hr
theorem Bl.qeV (h:Bl w W) {p:Addr}(hp:p.block<w.heap.size):W.cell? p=w.cell? p:=Below.cell h hp
theorem Bl.frozenOf (h:Bl w W) {p:Addr}(hp:p.block<w.heap.size):W.frozen? p=w.frozen? p:=Below.frozen h hp
end
theorem zr {W w1:World}(hb:Bl W w1):(∀b o,b<W.heap.size->w1.cell? ⟨b,o,none⟩=W.cell? ⟨b,o,none⟩)/\(∀b o,b<W.heap.size->w1.frozen? ⟨b,o,none⟩=W.frozen? ⟨b,o,none⟩) :=
 ⟨λb o h=>hb.qeV (p:=⟨b,o,none⟩) h,λb o h=>hb.frozenOf (p:=⟨b,o,none⟩) h⟩
def ix (l:List Int) (k:Nat):Int:=l.getD k 0
theorem qQ (a:Addr) (n:Nat):(a.add n).block=a.block:=by unfold Addr.add;split <;> rfl
structure RdI (w:World) (A:Option Addr) (n c:Nat) (l:List Int):Prop where
 len:l.length=n
 cap:n<=c
 small:n<=9223372036854775807
 cells:∀k,k<n->∃ad,A=some ad/\ad.block<w.heap.size/\w.cell? (ad.add k)=some (.int .i64 (ix l k))
section
variable {w W:World}{A B:Option Addr}{n c m d:Nat}{l:List Int}
theorem RdI.at_ (h:RdI w A n c l) {k:Nat}(hk:k<n) :
  ∃ad,A=some ad/\ad.block<w.heap.size/\w.cell? (ad.add k)=some (.int .i64 (ix l k)):=h.cells k hk
theorem RdI.bl (h:RdI w A n c l) (hb:Bl w W):RdI W A n c l :=
 ⟨h.len,h.cap,h.small,λk hk=>by
  obtain⟨ad,e,hlt,hc⟩:=h.cells k hk
  refine⟨ad,e,Nat.lt_of_lt_of_le hlt hb.size,?_⟩
  rw[hb.qeV (by rw[qQ];exact hlt)]
  exact hc⟩
theorem RdI.alloc (h:RdI w A n c l) (o:Obj):RdI (w.alloc o) A n c l:=h.bl ((Bl.refl w).alloc o)
theorem RdI.drewN (h:RdI w A n c l) (q:Nat):RdI (w.drewN q) A n c l:=⟨h.len,h.cap,h.small,h.cells⟩
theorem RdI.nil (w:World) (A:Option Addr) (c:Nat):RdI w A 0 c []:=⟨rfl,Nat.zero_le _,by omega,λk hk=>by omega⟩
def Ow (T:TypeId) (w:World) (g:Nat) (l:List Int):Prop:=w.heap[g]?=some (.cells (l.map (Value.int .i64)).toArray T (0,0))
section
variable {T:TypeId}{g:Nat}
theorem Ow.lt (h:Ow T w g l):g<w.heap.size:=by
 unfold Ow at h
 rcases Nat.lt_or_ge g w.heap.size with hlt|hge
 ·exact hlt
 ·rw[Array.getElem?_eq_none hge]at h;cases h
theorem Ow.cell (h:Ow T w g l) {k:Nat}(hk:k<l.length):w.cell? ⟨g,k,none⟩=some (.int .i64 (ix l k)):=by
 unfold Ow at h
 rw[cell_of_row w g k _ T (0,0) h]
 simp[ix,hk]
theorem Ow.frozen (h:Ow T w g l) (k:Nat):w.frozen? ⟨g,k,none⟩=false:=by
 unfold Ow at h
 simp[World.frozen?,h]
theorem Ow.set (h:Ow T w g l) (k:Nat) (x:Int):Ow T (w.setCell ⟨g,k,none⟩ (.int .i64 x)) g (l.set k x):=by
 unfold Ow at h ⊢
 simp[World.setCell,Array.getElem?_modify,h,List.map_set]
theorem Ow.setFar (h:Ow T w g l) {p:Addr}(hp:g≠p.block) (u:Value):Ow T (w.setCell p u) g l:=(Below.heap_setCell w p u g hp).trans h
theorem Ow.bl (h:Ow T w g l) (hb:Bl w W):Ow T W g l:=(Below.block hb g h.lt).trans h
theorem Ow.drewN (h:Ow T w g l) (q:Nat):Ow T (w.drewN q) g l:=h
theorem Ow.alloc (h:Ow T w g l) (o:Obj):Ow T (w.alloc o) g l:=h.bl ((Bl.refl w).alloc o)
theorem Ow.made (w:World) (n:Nat):Ow T (w.alloc (.cells (madeCells #[.int .i64 0] n) T)) w.heap.size (List.replicate n 0):=by
 unfold Ow
 rw[heap_alloc_new]
 congr 2
 apply Array.toList_inj.1
 rw[toList_madeCells_one]
 simp
def uJ (T:TypeId) (n:Nat):Obj:=.cells (madeCells #[.int .i64 0] n) T
theorem Ow.mk (w:World) (n:Nat):Ow T (w.alloc (uJ T n)) w.heap.size (List.replicate n 0):=Ow.made w n
theorem ji {P:Program}{t e:TypeId}(ht:P.underlying t=some (.slice e)) (hinfo:(P.info? e).map (λi=>(i.zero,i.size,i.bytes))=some (some (.int .i64 0),1,8))
  (n c:Nat) (hnc:n<=c) (hc:c<=1099511627776) (w:World) :
  (Instr.makeSlice t (.int .i64 (n:Int)) (.int .i64 (c:Int))).run P w=.ok (.slice (some ⟨w.heap.size,0,none⟩) n c) (w.alloc (uJ e c)):=by
 obtain⟨i0,hi,hz0,hz1,hz2⟩:=info_parts hinfo
 have:=run_make (P:=P) w t e i0 (.int .i64 0) ht hi hz0 .i64 .i64 (n:Int) (c:Int) (by omega) (by omega) (by rw[hz2];omega) (by omega)
 rw[this,hz1]
 simp[uJ,Value.cells]
def OwI (T:TypeId) (b0:Nat) (w:World) (A:Option Addr) (n c:Nat) (l:List Int):Prop :=
 RdI w A n c l/\(n=0\/∃g cs,A=some ⟨g,0,none⟩/\b0<=g/\w.heap[g]?=some (.cells cs T (0,0))/\n<=cs.size)
theorem Ow.rd (h:Ow T w g l) (hn:l.length<=9223372036854775807) {c:Nat}(hc:l.length<=c):RdI w (some ⟨g,0,none⟩) l.length c l :=
 ⟨rfl,hc,hn,λk hk =>⟨⟨g,0,none⟩,rfl,h.lt,by
  have:=h.cell hk
  rw[Addr.add_lit,Nat.zero_add]
  exact this⟩⟩
theorem Ow.own {b0:Nat}(h:Ow T w g l) (hn:l.length<=9223372036854775807) (hg:b0<=g) {c:Nat}(hc:l.length<=c):OwI T b0 w (some ⟨g,0,none⟩) l.length c l :=
 ⟨h.rd hn hc,.inr ⟨g,_,rfl,hg,h,by simp⟩⟩
theorem OwI.rd {b0:Nat}(h:OwI T b0 w A n c l):RdI w A n c l:=h.1
theorem OwI.bl {b0:Nat}(h:OwI T b0 w A n c l) (hb:Bl w W):OwI T b0 W A n c l:=by
 refine⟨h.1.bl hb,?_⟩
 rcases h.2 with h0 |⟨g,cs,e,hg,hh,hn⟩
 ·exact .inl h0
 ·exact .inr ⟨g, cs, e, hg, (Below.block hb g (by
   rcases Nat.lt_or_ge g w.heap.size with hlt|hge
   ·exact hlt
   ·rw[Array.getElem?_eq_none hge]at hh;cases hh)).trans hh,hn⟩
theorem OwI.mono {b0 b1:Nat}(h:OwI T b0 w A n c l) (hb:b1<=b0):OwI T b1 w A n c l:=by
 refine⟨h.1,?_⟩
 rcases h.2 with h0 |⟨g,cs,e,hg,r⟩
 ·exact .inl h0
 ·exact .inr ⟨g,cs,e,Nat.le_trans hb hg,r⟩
theorem OwI.nil (b0:Nat) (w:World) (A:Option Addr) (c:Nat):OwI T b0 w A 0 c []:=⟨RdI.nil w A c,.inl rfl⟩
end
structure qH where
 neg:Bool
 mag:List Int
 den:List Int
 deriving DecidableEq
structure PtD where
 x:qH
 y:qH
 deriving DecidableEq
structure RdR (w:World) (s:Bool) (A:Option Addr) (n c:Nat) (B:Option Addr) (m d:Nat) (r:qH):Prop where
 neg:s=r.neg
 mag:RdI w A n c r.mag
 den:RdI w B m d r.den
variable {s:Bool}{r:qH}
theorem RdR.bl (h:RdR w s A n c B m d r) (hb:Bl w W):RdR W s A n c B m d r:=⟨h.neg,h.mag.bl hb,h.den.bl hb⟩
theorem RdR.alloc (h:RdR w s A n c B m d r) (o:Obj):RdR (w.alloc o) s A n c B m d r:=⟨h.neg,h.mag.alloc o,h.den.alloc o⟩
end
def YX (w:World) (p:Addr) (pt:PtD):Prop :=
 ∃ s A n c B m d t C i e D j f, (w.cell? p = some (.bool s) /\ w.cell? ⟨p.block, p.off + 1, none⟩ = some (.slice A n c) /\ w.cell? ⟨p.block, p.off + 2, none⟩ = some (.slice B m d) /\
  w.cell? ⟨p.block,p.off+3,none⟩=some (.bool t)/\w.cell? ⟨p.block,p.off+4,none⟩=some (.slice C i e)/\w.cell? ⟨p.block,p.off+5,none⟩=some (.slice D j f)) /\
  RdR w s A n c B m d pt.x/\RdR w t C i e D j f pt.y
theorem YX.bl {w W:World}{p:Addr}{pt:PtD}(h:YX w p pt) (hp:p.block<w.heap.size) (hb:Bl w W):YX W p pt:=by
 obtain⟨s,A,n,c,B,m,d,t,C,i,e,D,j,f,⟨h0,h1,h2,h3,h4,h5⟩,hx,hy⟩:=h
 refine⟨s,A,n,c,B,m,d,t,C,i,e,D,j,f,⟨?_,?_,?_,?_,?_,?_⟩,hx.bl hb,hy.bl hb⟩
 ·rw[hb.qeV hp];exact h0
 ·rw[hb.qeV (p:=⟨p.block,p.off+1,none⟩) hp];exact h1
 ·rw[hb.qeV (p:=⟨p.block,p.off+2,none⟩) hp];exact h2
 ·rw[hb.qeV (p:=⟨p.block,p.off+3,none⟩) hp];exact h3
 ·rw[hb.qeV (p:=⟨p.block,p.off+4,none⟩) hp];exact h4
 ·rw[hb.qeV (p:=⟨p.block,p.off+5,none⟩) hp];exact h5
instance:Inhabited qH:=⟨⟨false,[],[]⟩⟩
instance:Inhabited PtD:=⟨⟨default,default⟩⟩
structure qC where
 a:Int
 b:Int
 c:Int
 region:Int
 level:Int
 deriving DecidableEq,Inhabited
def qdR (w:World) (p:Addr) (t:qC):Prop :=
 w.cell? p = some (.int .i64 t.a) /\ w.cell? ⟨p.block, p.off + 1, none⟩ = some (.int .i64 t.b) /\ w.cell? ⟨p.block, p.off + 2, none⟩ = some (.int .i64 t.c) /\
  w.cell? ⟨p.block,p.off+3,none⟩=some (.int .i64 t.region)/\w.cell? ⟨p.block,p.off+4,none⟩=some (.int .i64 t.level)
theorem qdR.bl {w W:World}{p:Addr}{t:qC}(h:qdR w p t) (hp:p.block<w.heap.size) (hb:Bl w W):qdR W p t:=by
 obtain⟨h0,h1,h2,h3,h4⟩:=h
 refine⟨?_,?_,?_,?_,?_⟩
 ·rw[hb.qeV hp];exact h0
 ·rw[hb.qeV (p:=⟨p.block,p.off+1,none⟩) hp];exact h1
 ·rw[hb.qeV (p:=⟨p.block,p.off+2,none⟩) hp];exact h2
 ·rw[hb.qeV (p:=⟨p.block,p.off+3,none⟩) hp];exact h3
 ·rw[hb.qeV (p:=⟨p.block,p.off+4,none⟩) hp];exact h4
def pix {α:Type} [Inhabited α] (l:List α) (k:Nat):α:=l.getD k default
structure RdS {α:Type} [Inhabited α] (size:Nat) (At:World->Addr->α->Prop) (w:World) (A:Option Addr) (n c:Nat) (l:List α):Prop where
 len:l.length=n
 cap:n<=c
 small:n<=9223372036854775807
 cells:∀k,k<n->∃ad,A=some ad/\ad.block<w.heap.size/\At w (ad.add (k*size)) (pix l k)
section
variable {α:Type} [Inhabited α] {size:Nat}{At:World->Addr->α->Prop}{w W:World}{A:Option Addr}{n c:Nat}{l:List α}
theorem RdS.bl (hAt:∀{w W:World}{p:Addr}{x:α},At w p x->p.block<w.heap.size->Bl w W->At W p x) (h:RdS size At w A n c l) (hb:Bl w W):RdS size At W A n c l :=
 ⟨h.len,h.cap,h.small,λk hk=>by
  obtain⟨ad,e,hlt,hc⟩:=h.cells k hk
  exact⟨ad,e,Nat.lt_of_lt_of_le hlt hb.size,hAt hc (by rw[qQ];exact hlt) hb⟩⟩
theorem RdS.nil (w:World) (A:Option Addr) (c:Nat):RdS size At w A 0 c ([]:List α):=⟨rfl,Nat.zero_le _,by omega,λk hk=>by omega⟩
end
abbrev qR:=RdS 6 YX
abbrev zx:=RdS 5 qdR
theorem qR.bl {w W:World}{A:Option Addr}{n c:Nat}{l:List PtD}(h:qR w A n c l) (hb:Bl w W):qR W A n c l:=RdS.bl (λh hp hb=>h.bl hp hb) h hb
theorem zx.bl {w W:World}{A:Option Addr}{n c:Nat}{l:List qC}(h:zx w A n c l) (hb:Bl w W):zx W A n c l:=RdS.bl (λh hp hb=>h.bl hp hb) h hb
def Fp (lo hi:Nat) (bs:List Nat):Prop:=bs.Nodup/\∀b∈bs,lo<=b/\b<hi
theorem Fp.nil (lo hi:Nat):Fp lo hi []:=⟨List.nodup_nil,λb hb=>by cases hb⟩
theorem Fp.one {lo hi g:Nat}(h1:lo<=g) (h2:g<hi):Fp lo hi [g]:=⟨by simp,λb hb=>by simp at hb;subst hb;exact⟨h1,h2⟩⟩
theorem Fp.app {lo mid mid' hi:Nat}{a b:List Nat}(h:Fp lo mid a) (k:Fp mid' hi b) (hm:mid<=mid') (h1:lo<=mid) (h2:mid'<=hi):Fp lo hi (a++b):=by
 refine⟨List.nodup_append.2 ⟨h.1,k.1,λx hx y hy e=>?_⟩,λx hx=>?_⟩
 ·subst e;have:=h.2 x hx;have:=k.2 x hy;omega
 ·rcases List.mem_append.1 hx with hx|hx
  ·have:=h.2 x hx;omega
  ·have:=k.2 x hx;omega
theorem Fp.mono {lo lo' hi hi':Nat}{a:List Nat}(h:Fp lo hi a) (h1:lo'<=lo) (h2:hi<=hi'):Fp lo' hi' a :=
 ⟨h.1,λb hb=>by have:=h.2 b hb;omega⟩
def FtI (T:TypeId) (w:World) (A:Option Addr) (n c:Nat) (l:List Int) (bs:List Nat):Prop :=
 RdI w A n c l/\((n=0/\bs=[])\/∃g cs,0<n/\A=some ⟨g,0,none⟩/\w.heap[g]?=some (.cells cs T (0,0))/\n<=cs.size/\bs=[g])
theorem qV {w:World}{g:Nat}{o:Obj}(h:w.heap[g]?=some o):g<w.heap.size:=by
 rcases Nat.lt_or_ge g w.heap.size with hlt|hge
 ·exact hlt
 ·rw[Array.getElem?_eq_none hge]at h;cases h
section
variable {T:TypeId}{w W:World}{A B:Option Addr}{n c m d:Nat}{l:List Int}{bs:List Nat}
theorem FtI.keep (h:FtI T w A n c l bs) (hs:w.heap.size<=W.heap.size) (hk:∀b∈bs,W.heap[b]?=w.heap[b]?):FtI T W A n c l bs:=by
 obtain⟨hr,h2⟩:=h
 rcases h2 with ⟨h0,hb⟩ |⟨g,cs,hn,rfl,hh,hsz,rfl⟩
 ·exact⟨⟨hr.len,hr.cap,hr.small,λk hk=>by omega⟩,.inl ⟨h0,hb⟩⟩
 ·have hg:W.heap[g]?=w.heap[g]?:=hk g (by simp)
  refine⟨⟨hr.len,hr.cap,hr.small,λk hk=>?_⟩,.inr ⟨g,cs,hn,rfl,by rw[hg];exact hh,hsz,rfl⟩⟩
  obtain⟨ad,e,hlt,hc⟩:=hr.cells k hk
  injection e with e
  subst e
  refine⟨_,rfl,Nat.lt_of_lt_of_le hlt hs,?_⟩
  rw[World.cell?_of_block (w:=w) (by rw[qQ];exact hg)]
  exact hc
theorem FtI.bl (h:FtI T w A n c l bs) (hb:Bl w W):FtI T W A n c l bs:=by
 refine h.keep hb.size λb hm=>Below.block hb b ?_
 rcases h.2 with ⟨_,e⟩ |⟨g,cs,_,_,hh,_,e⟩
 ·rw[e]at hm;cases hm
 ·rw[e]at hm;simp at hm;subst hm;exact qV hh
theorem FtI.of_own {b0:Nat}(h:OwI T b0 w A n c l):∃bs,FtI T w A n c l bs/\Fp b0 w.heap.size bs:=by
 obtain⟨hr,h2⟩:=h
 rcases Nat.eq_zero_or_pos n with h0|h0
 ·exact⟨[],⟨hr,.inl ⟨h0,rfl⟩⟩,Fp.nil _ _⟩
 ·rcases h2 with h2 |⟨g,cs,e,hg,hh,hn⟩
  ·omega
  ·exact⟨[g],⟨hr,.inr ⟨g,cs,h0,e,hh,hn,rfl⟩⟩,Fp.one hg (qV hh)⟩
def FtR (T:TypeId) (w:World) (s:Bool) (A:Option Addr) (n c:Nat) (B:Option Addr) (m d:Nat) (r:qH) (bs:List Nat):Prop :=
 s=r.neg/\∃b1 b2,FtI T w A n c r.mag b1/\FtI T w B m d r.den b2/\bs=b1++b2
variable {s:Bool}{r:qH}
theorem FtR.rd (h:FtR T w s A n c B m d r bs):RdR w s A n c B m d r:=by
 obtain⟨h1,b1,b2,h2,h3,_⟩:=h
 exact⟨h1,h2.1,h3.1⟩
theorem FtR.keep (h:FtR T w s A n c B m d r bs) (hs:w.heap.size<=W.heap.size) (hk:∀b∈bs,W.heap[b]?=w.heap[b]?):FtR T W s A n c B m d r bs:=by
 obtain⟨h1,b1,b2,h2,h3,rfl⟩:=h
 exact⟨h1,b1,b2,h2.keep hs λb hb=>hk b (by simp[hb]),h3.keep hs λb hb=>hk b (by simp[hb]),rfl⟩
theorem FtR.bl (h:FtR T w s A n c B m d r bs) (hb:Bl w W):FtR T W s A n c B m d r bs:=by
 obtain⟨h1,b1,b2,h2,h3,rfl⟩:=h
 exact⟨h1,b1,b2,h2.bl hb,h3.bl hb,rfl⟩
def OwR (T:TypeId) (b0:Nat) (w:World) (s:Bool) (A:Option Addr) (n c:Nat) (B:Option Addr) (m d:Nat) (r:qH):Prop :=
 ∃bs,FtR T w s A n c B m d r bs/\Fp b0 w.heap.size bs
theorem OwR.rd {b0:Nat}(h:OwR T b0 w s A n c B m d r):RdR w s A n c B m d r:=by
 obtain⟨bs,h,_⟩:=h
 exact h.rd
theorem OwR.bl {b0:Nat}(h:OwR T b0 w s A n c B m d r) (hb:Bl w W):OwR T b0 W s A n c B m d r:=by
 obtain⟨bs,h,hf⟩:=h
 exact⟨bs,h.bl hb,hf.mono (Nat.le_refl _) hb.size⟩
theorem OwR.mono {b0 b1:Nat}(h:OwR T b0 w s A n c B m d r) (hb:b1<=b0):OwR T b1 w s A n c B m d r:=by
 obtain⟨bs,h,hf⟩:=h
 exact⟨bs,h,hf.mono hb (Nat.le_refl _)⟩
theorem OwR.two {b0:Nat}{w1:World}{mag den:List Int}(h:OwI T b0 w1 A n c mag) (k:OwI T w1.heap.size w B m d den) (hb:Bl w1 w) (h0:b0<=w1.heap.size):OwR T b0 w s A n c B m d ⟨s,mag,den⟩:=by
 obtain⟨b1,h1,f1⟩:=FtI.of_own h
 obtain⟨b2,h2,f2⟩:=FtI.of_own k
 exact⟨b1++b2,⟨rfl,b1,b2,h1.bl hb,h2,rfl⟩,f1.app f2 (Nat.le_refl _) h0 hb.size⟩
def qdg (T:TypeId) (w:World) (cs:Array Value) (i:Nat) (pt:PtD) (bs:List Nat):Prop :=
 ∃ s A n c B m d t C j e D k f b1 b2, (cs[i]? = some (.bool s) /\ cs[i + 1]? = some (.slice A n c) /\ cs[i + 2]? = some (.slice B m d) /\
  cs[i+3]?=some (.bool t)/\cs[i+4]?=some (.slice C j e)/\cs[i+5]?=some (.slice D k f)) /\
  FtR T w s A n c B m d pt.x b1/\FtR T w t C j e D k f pt.y b2/\bs=b1++b2
end
def Blk (w:World) (g:Nat) (T:TypeId) (cs:Array Value):Prop:=w.heap[g]?=some (.cells cs T (0,0))
section
variable {w W:World}{g:Nat}{T:TypeId}{cs:Array Value}
theorem Blk.lt (h:Blk w g T cs):g<w.heap.size:=qV h
theorem Blk.cell (h:Blk w g T cs) (i:Nat):w.cell? ⟨g,i,none⟩=cs[i]?:=cell_of_row w g i cs T (0,0) h
theorem Blk.some (h:Blk w g T cs) {i:Nat}(hi:i<cs.size):∃v,w.cell? ⟨g,i,none⟩=some v:=⟨cs[i],by rw[h.cell i];exact Array.getElem?_eq_getElem hi⟩
theorem Blk.frozen (h:Blk w g T cs) (i:Nat):w.frozen? ⟨g,i,none⟩=false:=by
 unfold Blk at h
 simp[World.frozen?,h]
theorem Blk.bl (h:Blk w g T cs) (hb:Bl w W):Blk W g T cs:=(Below.block hb g h.lt).trans h
theorem Blk.set_ (h:Blk w g T cs) (i:Nat) (u:Value):Blk (w.setCell ⟨g,i,none⟩ u) g T (cs.setIfInBounds i u):=by
 unfold Blk at h ⊢
 simp[World.setCell,Array.getElem?_modify,h]
theorem Blk.far (h:Blk w g T cs) {p:Addr}(hp:g≠p.block) (u:Value):Blk (w.setCell p u) g T cs:=(Below.heap_setCell w p u g hp).trans h
end
def qaf (T:TypeId) (w:World) (cs:Array Value) (l:List PtD) (k:Nat) (fs:List (List Nat)):Prop :=
 fs.length=k/\∀i,i<k->qdg T w cs (i*6) (pix l i) (pix fs i)
section
variable {T:TypeId}{w W:World}{cs cs':Array Value}{i:Nat}{p:PtD}{bs:List Nat}
end
theorem zL {fs:List (List Nat)}{i:Nat}{b:Nat}(hb:b∈pix fs i):b∈fs.flatten:=by
 unfold pix at hb
 rcases Nat.lt_or_ge i fs.length with h|h
 ·rw[List.getD_eq_getElem?_getD,List.getElem?_eq_getElem h]at hb
  exact List.mem_flatten.2 ⟨_,List.getElem_mem h,hb⟩
 ·rw[List.getD_eq_getElem?_getD,List.getElem?_eq_none h]at hb
  cases hb
theorem q6 {α:Type} [Inhabited α] {a b:List α}{i:Nat}(h:i<a.length):pix (a++b) i=pix a i:=by
 unfold pix;rw[List.getD_eq_getElem?_getD,List.getD_eq_getElem?_getD,List.getElem?_append_left h]
theorem jk {α:Type} [Inhabited α] {a:List α}{x:α}:pix (a++[x]) a.length=x:=by
 unfold pix;simp[List.getD]
section
variable {T:TypeId}{w W:World}{cs:Array Value}{l:List PtD}{k:Nat}{fs:List (List Nat)}
end
theorem qdg.at_ {T:TypeId}{w:World}{g:Nat}{TP:TypeId}{cs:Array Value}{i:Nat}{p:PtD}{bs:List Nat}(h:qdg T w cs i p bs) (hB:Blk w g TP cs):YX w ⟨g,i,none⟩ p:=by
 obtain⟨s,A,n,c,B,m,d,t,C,j,e,D,k,f,b1,b2,⟨h0,h1,h2,h3,h4,h5⟩,hx,hy,_⟩:=h
 exact⟨s,A,n,c,B,m,d,t,C,j,e,D,k,f,⟨(hB.cell _).trans h0,(hB.cell _).trans h1,(hB.cell _).trans h2,(hB.cell _).trans h3,(hB.cell _).trans h4,(hB.cell _).trans h5⟩,hx.rd,hy.rd⟩
theorem qaf.rd {T:TypeId}{w:World}{g:Nat}{TP:TypeId}{cs:Array Value}{l:List PtD}{fs:List (List Nat)}{n c:Nat}(h:qaf T w cs l n fs) (hB:Blk w g TP cs) (hl:l.length=n) (hn:n<=9223372036854775807) (hc:n<=c):qR w (some ⟨g,0,none⟩) n c l :=
 ⟨hl,hc,hn,λk hk =>⟨_,rfl,hB.lt,by
  rw[Addr.add_lit,Nat.zero_add]
  exact(h.2 k hk).at_ hB⟩⟩
def qeQ (cs:Array Value) (i:Nat) (t:qC):Prop :=
 cs[i]?=some (.int .i64 t.a)/\cs[i+1]?=some (.int .i64 t.b)/\cs[i+2]?=some (.int .i64 t.c)/\cs[i+3]?=some (.int .i64 t.region)/\cs[i+4]?=some (.int .i64 t.level)
def VO {α:Type} [Inhabited α] (f:α->Nat) (l:List α):Nat->Nat
 | 0=>0
 | k+1=>VO f l k+f (pix l k)
def szL {α:Type} [Inhabited α] (f:α->Nat) (l:List α):Nat:=l.length+VO f l l.length
theorem qaM {α:Type} [Inhabited α] (f:α->Nat) (l:List α) {k n:Nat}(h:k<=n):VO f l k<=VO f l n:=by
 induction n with
 | zero=>
      obtain rfl : k = 0 := by omega
      exact Nat.le_refl _
 | succ n ih=>
  rcases Nat.eq_or_lt_of_le h with rfl|h
  ·exact Nat.le_refl _
  ·exact Nat.le_trans (ih (by omega)) (by simp[VO])
theorem vG {α:Type} [Inhabited α] (f:α->Nat) (l:List α) {k:Nat}(h:k<l.length):f (pix l k)<=szL f l:=by
 have:=qaM f l (show k+1<=l.length from h)
 simp only[VO]at this
 unfold szL
 omega
def szR (r:qH):Nat:=r.mag.length+r.den.length
def szP (p:PtD):Nat:=szR p.x+szR p.y
structure MeD where
 points:List PtD
 tris:List qC
 deriving DecidableEq
theorem ve {α:Type} [Inhabited α] {l l':List α}{n:Nat}(h:l.length=n) (h':l'.length=n) (e:∀i,i<n->pix l i=pix l' i):l=l':=by
 apply List.ext_getElem (h.trans h'.symm)
 intro i h1 h2
 have:=e i (by omega)
 unfold pix at this
 rwa [List.getD_eq_getElem?_getD,List.getD_eq_getElem?_getD,List.getElem?_eq_getElem h1,List.getElem?_eq_getElem h2]at this
theorem qe {P:Program}{c:Code}{Q:Exit->Act->World->Prop}{a:Act}{W:World}(Rel:World->Prop) (h0:Rel W) (h:∀w2,Rel w2->Code.wp P c Q a w2):Code.wp P c Q a W:=h W h0
theorem qd {P:Program}{f:FuncId}{args:Array Value}{W:World}{R:Ending->World->Prop}(Rel:World->Prop) (h0:Rel W) (h:∀w2,Rel w2->Calls P f args w2 R):Calls P f args W R:=h W h0
theorem Blk.new (w:World) (T:TypeId) (cs:Array Value):Blk (w.alloc (.cells cs T)) w.heap.size T cs:=heap_alloc_new w _
theorem qn:(Tryz.prog.info? 3).map (λi=>(i.zero,i.size,i.bytes))=some (some (.int .i64 0),1,8):=by kernel_rfl
def OwL (E:TypeId) (base:Nat) (w:World) (v:Value) (l:List Int):Prop:=w.ownsRow base E 1 v l.length (l.map (Value.int .i64))
section
variable {E:TypeId}{base:Nat}{w W:World}{v:Value}{l:List Int}
theorem OwL.alloc (h:OwL E base w v l) (o:Obj):OwL E base (w.alloc o) v l:=World.ownsRow.alloc h o
theorem OwL.drew (h:OwL E base w v l):OwL E base w.drew v l:=h
theorem OwL.bl (h:OwL E base w v l) (hb:Bl w W):OwL E base W v l:=by
 refine⟨h.1,?_⟩
 rcases h.2 with h2 |⟨g,cap,cur,hv,hg,hh,r⟩
 ·exact .inl h2
 ·exact .inr ⟨g,cap,cur,hv,hg,(Below.block hb g (qV hh)).trans hh,r⟩
theorem OwL.empty (w:World) {cur:Array Value}(hb:base<=w.heap.size) (hm:cur.size<=maxLen):OwL E base (w.alloc (.cells cur E)) (.slice (some ⟨w.heap.size,0,none⟩) 0 cur.size) [] :=
 World.ownsRow_made w cur cur.size hb hm (by simp)
theorem OwL.room (w:World) (n:Nat) (hb:base<=w.heap.size) (hm:n<=maxLen):OwL E base (w.alloc (uJ E n)) (.slice (some ⟨w.heap.size,0,none⟩) 0 n) [] :=
 World.ownsRow_made w (madeCells #[.int .i64 0] n) n hb hm (by rw[size_madeCells];omega)
theorem OwL.blockLe (h:OwL E base w v l):∀k,v.ownBlock=some k->base<=k:=λk hk=>(World.ownsRow.lt h k hk).1
theorem OwL.own (h:OwL E base w v l) (hl:l.length<=9223372036854775807):∃A c,v=.slice A l.length c/\OwI E base w A l.length c l:=by
 have hx:=h.1
 rcases h.2 with ⟨rfl,h0⟩ |⟨g,cap,cur,rfl,hg,hh,hn,hm,hs,ht⟩
 ·refine⟨none,0,by rw[h0],⟨⟨rfl,by omega,hl,λk hk=>by omega⟩,.inl h0⟩⟩
 ·refine⟨some ⟨g,0,none⟩,cap,rfl,⟨⟨rfl,hn,hl,λk hk=>⟨_,rfl,qV hh,?_⟩⟩,.inr ⟨g,cur,rfl,hg,hh,by omega⟩⟩⟩
  have:=World.ownsRow.cells h (g:=g) rfl k (.int .i64 (ix l k)) (by simp[ix,hk])
  exact this
end
theorem qo {P:Program}{E t:TypeId}(hinfo:(P.info? E).map (λi=>(i.zero,i.size,i.bytes))=some (some (.int .i64 0),1,8)) (ht:P.underlying t=some (.slice E))
  {w0 W:World}{x0:Int}{ops:Array Oper}{rest:List Oper}{o:Oper}{a:Act}{Q:Exit->Act->World->Prop}(hgd:o.guard=none) (s x:Operand)
  (ho:o.op=.call { callee:=.builtin .append,args:=#[s,x],argTypes:=#[t,t] }) (v:Value) (l:List Int) (hs:a.eval s=v) (hown:OwL E w0.heap.size W v l) (hb:Bl w0 W)
  (c:Nat) (hx:a.eval x=.slice (some ⟨W.heap.size,0,none⟩) 1 c) (hlen:l.length<=1099511627776)
  (h:∀v' w',OwL E w0.heap.size w' v' (l++[x0])->Bl w0 w'->wpList P ops Q rest (a.put o.dst v') w'):wpList P ops Q (o::rest) a (W.alloc (.cells #[.int .i64 x0] E)):=by
 obtain⟨i0,hi,hz0,hz1,hz2⟩:=info_parts hinfo
 have ho':=hown.alloc (.cells #[.int .i64 x0] E)
 have hbs:w0.heap.size<=(W.alloc (.cells #[.int .i64 x0] E)).heap.size:=by have:=hb.size;simp;omega
 refine wpList_append_own _ hgd s x t ho w0.heap.size E i0 (.int .i64 0) 1 8 ht hi hz0 hz1 hz2 rfl (by omega) v l.length (l.map (Value.int .i64)) hs ho' ⟨W.heap.size,0,none⟩ 1 c [.int .i64 x0] hx rfl (cell_one_new _ _ _) (by intro u hu;simp at hu;subst hu;rfl) (by simp only[maxLen];omega) (by omega) hbs ?_
 intro v' w' h1 h2 _
 refine h v' w' ?_ ((hb.alloc _).grown h2 ho'.blockLe)
 unfold OwL
 simpa using h1
theorem kQ {P:Program}{f:FuncId}{args:Array Value}{w:World}{a n:Nat}{v:Value}
  (h:Calls P f args (w.drewN (a+n)) λe w'=>e=.returned v/\∃m,w'=(w.drewN (a+n)).drewN m) :
  Calls P f args (w.drewN (a+n)) λe w''=>e=.returned v/\∃m,w''=w.drewN (a+m) :=
 h.mono λ_ _ ⟨he,m,hm⟩=>⟨he,n+m,by rw[hm,World.drewN_drewN,Nat.add_assoc]⟩
theorem qf {w a:World}{n:Nat}(h:∃q,a=w.drewN q):∃q,a.drewN n=w.drewN q:=by
 obtain⟨q,rfl⟩:=h
 exact⟨q+n,by rw[World.drewN_drewN]⟩
theorem vV {w a:World}(h:∃q,a=w.drewN q):Bl w a:=by
 obtain⟨q,rfl⟩:=h
 exact(Bl.refl w).drewN q
theorem qq {a b:Bool}(h:a=b):Ending.returned (.bool a)=.returned (.bool b):=by rw[h]
theorem zb {k:IntKind}{a b:Int}(h:a=b):Ending.returned (.int k a)=.returned (.int k b):=by rw[h]
theorem slc {P:Prop}(h:P:=by repeat (first |(with_reducible first|assumption|exact Bl.refl _|refine Bl.drewN ?_ _|refine Bl.drew ?_|refine Bl.alloc ?_ _) |(with_reducible refine Bl.set ?_ (by simp <;> omega) _) |(with_reducible refine Bl.next ?_ ‹_›))):P:=h
def Bs:Nat:=1000000000
theorem qk:Bs=1000000000:=rfl
theorem zj:0<Bs:=by decide
def val:List Nat->Nat
 | []=>0
 | x::xs=>x+Bs*val xs
def dx (l:List Nat) (k:Nat):Nat:=l.getD k 0
def jL (l:List Nat):Prop:=∀d∈l,d<Bs
theorem qI {l:List Nat}(h:jL l) (k:Nat):dx l k<Bs:=by
 unfold dx
 rw[List.getD_eq_getElem?_getD]
 rcases Nat.lt_or_ge k l.length with hk|hk
 ·rw[List.getElem?_eq_getElem hk];exact h _ (List.getElem_mem hk)
 ·rw[List.getElem?_eq_none hk];exact zj
theorem qP {l:List Nat}{k:Nat}(h:l.length<=k):dx l k=0:=by
 unfold dx;rw[List.getD_eq_getElem?_getD,List.getElem?_eq_none h];rfl
theorem yB (x:Nat) (l:List Nat) (k:Nat):dx (x::l) (k+1)=dx l k:=by simp[dx]
theorem Xf (x:Nat) (l:List Nat):dx (x::l) 0=x:=by simp[dx]
theorem Uz {l:List Nat}(h:∀k,k<l.length->dx l k<Bs):jL l:=by
 intro d hd
 obtain⟨k,hk,rfl⟩:=List.mem_iff_getElem.1 hd
 have:=h k hk
 unfold dx at this
 rwa [List.getD_eq_getElem?_getD,List.getElem?_eq_getElem hk]at this
def vf (f:Nat->Nat):Nat->Nat
 | 0=>0
 | k+1=>vf f k+f k*Bs ^ k
theorem jW {f g:Nat->Nat}{k:Nat}(h:∀i,i<k->f i=g i):vf f k=vf g k:=by
 induction k with
 | zero=>rfl
 | succ k ih=>simp only[vf];rw[ih λi hi=>h i (by omega),h k (by omega)]
theorem uV (f:Nat->Nat) (k:Nat):vf f (k+1)=f 0+Bs*vf (λi=>f (i+1)) k:=by
 induction k with
 | zero=>simp[vf]
 | succ k ih=>
  rw[vf,ih]
  simp only[vf]
  rw[Nat.mul_add,Nat.pow_succ,Nat.add_assoc]
  congr 2
  rw[Nat.mul_comm Bs,Nat.mul_assoc]
theorem Q3 {f:Nat->Nat}{k:Nat}(h:∀i,i<k->f i<Bs):vf f k<Bs ^ k:=by
 induction k with
 | zero=>simp[vf]
 | succ k ih=>
  have h1:=ih λi hi=>h i (by omega)
  have h2:f k+1<=Bs:=h k (by omega)
  have h3:=Nat.mul_le_mul_right (Bs ^ k) h2
  rw[Nat.add_mul,Nat.one_mul]at h3
  simp only[vf,Nat.pow_succ]
  rw[Nat.mul_comm (Bs ^ k) Bs]
  omega
theorem VC {f:Nat->Nat}{k m:Nat}(h:∀i,k<=i->i<m->f i=0) (hk:k<=m):vf f m=vf f k:=by
 induction m with
 | zero=>
      obtain rfl : k = 0 := by omega
      rfl
 | succ m ih=>
  rcases Nat.eq_or_lt_of_le hk with rfl|hlt
  ·rfl
  ·rw[vf,h m (by omega) (by omega),ih (λi h1 h2=>h i h1 (by omega)) (by omega)];omega
theorem yN (l:List Nat):val l=vf (dx l) l.length:=by
 induction l with
 | nil=>rfl
 | cons x l ih=>
  rw[List.length_cons,uV,val,ih]
  congr 1
theorem qW {l:List Nat}{k:Nat}(h:l.length<=k):vf (dx l) k=val l:=by
 rw[yN]
 exact VC (λi h1 _=>qP h1) h
theorem Uf {l:List Nat}(h:jL l):val l<Bs ^ l.length:=by
 rw[yN];exact Q3 λi _=>qI h i
theorem ZY (l:List Nat) (x:Nat):val (l++[x])=val l+x*Bs ^ l.length:=by
 induction l with
 | nil=>simp[val]
 | cons y l ih=>
  simp only[List.cons_append,val,ih,List.length_cons,Nat.pow_succ,Nat.mul_add]
  rw[Nat.add_assoc]
  congr 2
  rw[Nat.mul_comm Bs,Nat.mul_assoc]
theorem ZP (l:List Nat) (k:Nat):val (l.take (k+1))=val (l.take k)+dx l k*Bs ^ k:=by
 rcases Nat.lt_or_ge k l.length with h|h
 ·rw[List.take_succ_eq_append_getElem h,ZY,List.length_take,Nat.min_eq_left (by omega)]
  congr 2
  unfold dx;rw[List.getD_eq_getElem?_getD,List.getElem?_eq_getElem h];rfl
 ·rw[List.take_of_length_le (by omega),List.take_of_length_le (by omega),qP h];omega
theorem KO (l:List Nat) (k:Nat):vf (dx l) k=val (l.take k):=by
 induction k with
 | zero=>simp[vf,val]
 | succ k ih=>rw[vf,ih,ZP]
theorem jT (n:Nat):val (List.replicate n 0)=0:=by
 induction n with
 | zero=>rfl
 | succ n ih=>rw[List.replicate_succ,val,ih];rfl
theorem Yb {l:List Nat}{i:Nat}(h:i<l.length) (v:Nat):val (l.set i v)+dx l i*Bs ^ i=val l+v*Bs ^ i:=by
 induction l generalizing i with
 | nil=>simp at h
 | cons y l ih=>
  cases i with
  | zero=>simp[val,dx];omega
  | succ i=>
   have:=ih (i:=i) (by simpa using h)
   simp only[List.set_cons_succ,val,yB,Nat.pow_succ]
   rw[<-Nat.mul_assoc,<-Nat.mul_assoc,Nat.mul_comm _ Bs,Nat.mul_comm _ Bs]
   have h2:=congrArg (Bs*·) this
   simp only[Nat.mul_add]at h2
   omega
theorem jj {l:List Nat}{i:Nat}(h:i<l.length) (v j:Nat):dx (l.set i v) j=if j=i then v else dx l j:=by
 unfold dx
 rw[List.getD_eq_getElem?_getD,List.getD_eq_getElem?_getD,List.getElem?_set]
 by_cases e:i=j
 ·subst e;simp[h]
 ·rw[if_neg e,if_neg (λh=>e h.symm)]
theorem jB {l:List Nat}(h:jL l) {v:Nat}(hv:v<Bs) (i:Nat):jL (l.set i v):=by
 intro d hd
 rcases List.mem_or_eq_of_mem_set hd with h1|h1
 ·exact h d h1
 ·subst h1;exact hv
theorem zV (n:Nat):jL (List.replicate n 0):=by
 intro d hd
 rw[List.mem_replicate]at hd
 rw[hd.2];exact zj
theorem YH {l:List Nat}(h:jL l) (k:Nat):jL (l.take k):=λd hd=>h d (List.mem_of_mem_take hd)
theorem ZS {l:List Nat}(h:jL l) {v:Nat}(hv:v<Bs):jL (l++[v]):=by
 intro d hd
 rcases List.mem_append.1 hd with h1|h1
 ·exact h d h1
 ·simp at h1;subst h1;exact hv
def dig (n:Nat):List Nat:=if _h:n=0 then []else (n % Bs)::dig (n / Bs)
termination_by n
decreasing_by exact Nat.div_lt_self (by omega) (by decide)
theorem qX:dig 0=[]:=by unfold dig;simp
theorem yn {n:Nat}(h:n≠0):dig n=(n % Bs)::dig (n / Bs):=by rw[dig];simp[h]
theorem qB (n:Nat):val (dig n)=n:=by
 induction n using Nat.strongRecOn with
 | ind n ih=>
  by_cases h:n=0
  ·subst h;rw[qX];rfl
  ·rw[yn h,val,ih _ (Nat.div_lt_self (by omega) (by decide))]
   exact Nat.mod_add_div n Bs
theorem qs (n:Nat):jL (dig n):=by
 induction n using Nat.strongRecOn with
 | ind n ih=>
  by_cases h:n=0
  ·subst h;rw[qX];intro d hd;cases hd
  ·rw[yn h]
   intro d hd
   rcases List.mem_cons.1 hd with rfl|hd
   ·exact Nat.mod_lt _ zj
   ·exact ih _ (Nat.div_lt_self (by omega) (by decide)) d hd
def vi:List Nat->Prop
 | []=>True
 | x::xs=>x<Bs/\vi xs/\(xs=[]->x≠0)
theorem jI (n:Nat):vi (dig n):=by
 induction n using Nat.strongRecOn with
 | ind n ih=>
  by_cases h:n=0
  ·subst h;rw[qX];trivial
  ·rw[yn h]
   refine⟨Nat.mod_lt _ zj,ih _ (Nat.div_lt_self (by omega) (by decide)),λe=>?_⟩
   have h2:n / Bs=0:=by rw[<-qB (n / Bs),e];rfl
   have:=Nat.mod_add_div n Bs
   rw[h2]at this
   omega
theorem VD {l:List Nat}(h:vi l) (hl:l≠[]):0<val l:=by
 induction l with
 | nil=>exact absurd rfl hl
 | cons x xs ih=>
  simp only[val]
  by_cases e:xs=[]
  ·have:=h.2.2 e;omega
  ·have:=ih h.2.1 e
   have:=Nat.mul_lt_mul_of_pos_left this zj
   omega
theorem Zf {l:List Nat}(h:vi l):dig (val l)=l:=by
 induction l with
 | nil=>exact qX
 | cons x xs ih=>
  have hp:=VD h (by simp)
  rw[yn (by omega)]
  simp only[val]
  rw[Nat.add_mul_mod_self_left,Nat.mod_eq_of_lt h.1,Nat.add_mul_div_left _ _ zj,Nat.div_eq_of_lt h.1,Nat.zero_add,ih h.2.1]
theorem jS {l:List Nat}(h:jL l) (hl:l≠[]->dx l (l.length-1)≠0):vi l:=by
 induction l with
 | nil=>trivial
 | cons x xs ih=>
  refine⟨h x (by simp),ih (λd hd=>h d (by simp[hd])) (λe=>?_),λe=>?_⟩
  ·have:=hl (by simp)
   obtain⟨m,hm⟩:∃m,xs.length=m+1:=⟨xs.length-1,by have:=List.length_pos_iff.2 e;omega⟩
   rw[List.length_cons,hm]at this
   rw[hm]
   simpa [yB]using this
  ·subst e
   have:=hl (by simp)
   simpa [dx]using this
theorem QV {l:List Nat}(h:vi l) (hl:l≠[]):dx l (l.length-1)≠0:=by
 induction l with
 | nil=>exact absurd rfl hl
 | cons x xs ih=>
  by_cases e:xs=[]
  ·subst e;simpa [dx]using h.2.2 rfl
  ·obtain⟨m,hm⟩:∃m,xs.length=m+1:=⟨xs.length-1,by have:=List.length_pos_iff.2 e;omega⟩
   have:=ih h.2.1 e
   rw[hm]at this
   rw[List.length_cons,hm]
   simpa [yB]using this
theorem yg {l:List Nat}(h:vi l) (hl:l≠[]):Bs ^ (l.length-1)<=val l:=by
 rw[yN]
 obtain⟨m,hm⟩:∃m,l.length=m+1:=⟨l.length-1,by have:=List.length_pos_iff.2 hl;omega⟩
 have h1:=QV h hl
 rw[hm]at h1 ⊢
 simp only[Nat.add_sub_cancel]at h1 ⊢
 rw[vf]
 have:=Nat.mul_le_mul_right (Bs ^ m) (Nat.one_le_iff_ne_zero.2 h1)
 omega
theorem Za {l:List Nat}(h:jL l) (hl:l≠[]->Bs ^ (l.length-1)<=val l):vi l:=by
 refine jS h λe h0=>?_
 have h1:=hl e
 obtain⟨m,hm⟩:∃m,l.length=m+1:=⟨l.length-1,by have:=List.length_pos_iff.2 e;omega⟩
 rw[yN,hm]at h1
 rw[hm]at h0
 simp only[Nat.add_sub_cancel]at h0 h1
 rw[vf,h0]at h1
 have:=Q3 (f:=dx l) (k:=m) λi _=>qI h i
 omega
theorem qr {n k:Nat}:(dig n).length<=k↔n<Bs ^ k:=by
 constructor
 ·intro h
  have:=Uf (qs n)
  rw[qB]at this
  exact Nat.lt_of_lt_of_le this (Nat.pow_le_pow_right zj h)
 ·intro h
  rcases Nat.lt_or_ge k (dig n).length with hl|hl
  ·have hne:dig n≠[]:=λe=>by rw[e]at hl;simp at hl
   have h1:=yg (jI n) hne
   rw[qB]at h1
   have h2:=Nat.pow_le_pow_right (n:=Bs) zj (show k<=(dig n).length-1 by omega)
   omega
  ·exact hl
theorem Qe {n:Nat}:dig n=[]↔n=0:=by
 constructor
 ·intro h;rw[<-qB n,h];rfl
 ·rintro rfl;exact qX
theorem ql {n:Nat}:0<(dig n).length↔0<n:=by
 rw[List.length_pos_iff,Ne,Qe];omega
theorem qa7 {l:List Nat}{m:Nat}(h:∀j,m<=j->dx l j=0):val (l.take m)=val l:=by
 rw[<-KO]
 rcases Nat.lt_or_ge m l.length with hm|hm
 ·rw[yN];exact(VC (λi h1 _=>h i h1) (by omega)).symm
 ·exact qW hm
theorem X5 {l:List Nat}{m k:Nat}(h:k<m):dx (l.take m) k=dx l k:=by
 unfold dx
 rw[List.getD_eq_getElem?_getD,List.getD_eq_getElem?_getD,List.getElem?_take,if_pos h]
theorem JS {l:List Nat}{m:Nat}(hd:jL l) (hm:m<=l.length) (h:∀j,m<=j->dx l j=0) (h0:m=0\/dx l (m-1)≠0):l.take m=dig (val l):=by
 rw[<-qa7 h]
 refine(Zf (jS (YH hd m) λe=>?_)).symm
 have hl:(l.take m).length=m:=by rw[List.length_take];omega
 rw[hl]
 have hpos:0 < m:=by
  rw[<-hl];exact List.length_pos_iff.2 e
 rw[X5 (by omega)]
 rcases h0 with h0|h0
 ·omega
 ·exact h0
def qu (l:List Nat):List Int:=l.map Int.ofNat
theorem qg (l:List Nat):(qu l).length=l.length:=by simp[qu]
theorem qD (a b:List Nat):qu (a++b)=qu a++qu b:=by simp[qu]
theorem qL (a:List Nat) (k x:Nat):qu (a.set k x)=(qu a).set k (x:Int):=by simp[qu]
theorem zi (n:Nat):qu (List.replicate n 0)=List.replicate n 0:=by simp[qu]
theorem qas {a b:List Nat}(h:qu a=qu b):a=b:=by
 unfold qu at h
 exact(List.map_inj_right (λx y h=>Int.ofNat.inj h)).1 h
end Go.Proofs.YtjaapemopbbfaaaGreatDoor
