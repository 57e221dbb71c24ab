/- Lemmas. -/
import Derived.Test.YtjaapemopbbfaaaGreatRows
import Derived.WalkKit
import Derived.WalkSpells
import Derived.WalkLawsBesides
import Derived.Lib.Hide
import Derived.Laws.OwnMore
import Derived.Deep.AppendLies
import Derived.Deep.Draws
import Derived.Deep.QuietTactic
import Derived.BigQuiet
import Derived.Maps.AppendAt
import Derived.Deep.RegionHeld3
import Derived.StillTailTactics
namespace Go.Proofs.YtjaapemopbbfaaaGreat
section
open Go.RowKit
/-- Behind earlier worlds nothing has turned: w' is w, with new blocks, and with stores into new blocks alone. -/
def Bl (w w':World):Prop:=Below w.heap.size w w'
section
variable {w W w1:World}
theorem Bl.refl (w:World):Bl w w:=Below.refl _ _
theorem Bl.size (h:Bl w W):w.heap.size≤W.heap.size:=Below.size h
theorem Bl.alloc (h:Bl w W) (o:Obj):Bl w (W.alloc o):=Below.alloc h h.size o
theorem Bl.drew (h:Bl w W):Bl w W.drew:=Below.drew h
theorem Bl.drewN (h:Bl w W) (n:Nat):Bl w (W.drewN n):=Below.trans h ⟨rfl,rfl,rfl,Nat.le_refl _,fun _ _=> rfl⟩
theorem Bl.next (h:Bl w W) (hb:Bl W w1):Bl w w1:=Below.trans h (Below.mono hb h.size)
theorem Bl.set (h:Bl w W) {p:Addr}(hp:w.heap.size≤p.block) (u:Value):Bl w (W.setCell p u):=Below.setCell h hp u
theorem Bl.grown {row:Option Nat}(h:Bl w W) (hg:W.grownBy w1 row) (hr:∀ k,row=some k→w.heap.size≤k):Bl w w1:=Below.grown h hg h.size hr
theorem Bl.cellOf (h:Bl w W) {p:Addr}(hp:p.block < w.heap.size):W.cell? p=w.cell? p:=Below.cell h hp
theorem Bl.frozenOf (h:Bl w W) {p:Addr}(hp:p.block < w.heap.size):W.frozen? p=w.frozen? p:=Below.frozen h hp
end
/-- Behind a contract that ends in Bl: all old cells and marks read as before. -/
theorem bcell {W w1:World}(hb:Bl W w1):(∀ b o,b < W.heap.size→w1.cell? ⟨b,o,none⟩=W.cell? ⟨b,o,none⟩)∧(∀ b o,b < W.heap.size→w1.frozen? ⟨b,o,none⟩=W.frozen? ⟨b,o,none⟩) :=
  ⟨fun b o h=> hb.cellOf (p:=⟨b,o,none⟩) h,fun b o h=> hb.frozenOf (p:=⟨b,o,none⟩) h⟩

/-- Element k of a list of ints (a plain def: the walk leaves it closed). -/
def ix (l:List Int) (k:Nat):Int:=l.getD k 0

theorem block_add (a:Addr) (n:Nat):(a.add n).block=a.block:=by unfold Addr.add;split <;> rfl
/-- The slice value '.slice A n c' reads, in the world w, as the list of ints l. -/
structure RdI (w:World) (A:Option Addr) (n c:Nat) (l:List Int):Prop where
  len:l.length=n
  cap:n≤c
  small:n≤9223372036854775807
  cells:∀ k,k < n→∃ ad,A=some ad∧ad.block < w.heap.size∧w.cell? (ad.add k)=some (.int .i64 (ix l k))

section
variable {w W:World}{A B:Option Addr}{n c m d:Nat}{l:List Int}
theorem RdI.at_ (h:RdI w A n c l) {k:Nat}(hk:k < n) :
    ∃ ad,A=some ad∧ad.block < w.heap.size∧w.cell? (ad.add k)=some (.int .i64 (ix l k)):=h.cells k hk
theorem RdI.bl (h:RdI w A n c l) (hb:Bl w W):RdI W A n c l :=
  ⟨h.len,h.cap,h.small,fun k hk=> by
    obtain⟨ad,e,hlt,hc⟩:=h.cells k hk
    refine⟨ad,e,Nat.lt_of_lt_of_le hlt hb.size,?_⟩
    rw[hb.cellOf (by rw[block_add];exact hlt)]
    exact hc⟩
theorem RdI.alloc (h:RdI w A n c l) (o:Obj):RdI (w.alloc o) A n c l:=h.bl ((Bl.refl w).alloc o)
theorem RdI.drewN (h:RdI w A n c l) (q:Nat):RdI (w.drewN q) A n c l:=⟨h.len,h.cap,h.small,h.cells⟩
theorem RdI.drew (h:RdI w A n c l):RdI w.drew A n c l:=⟨h.len,h.cap,h.small,h.cells⟩
theorem RdI.nil (w:World) (A:Option Addr) (c:Nat):RdI w A 0 c []:=⟨rfl,Nat.zero_le _,by omega,fun k hk=> by omega⟩

/-- Block g holds the ints l, whole, none frozen; T: the number of the type int. -/
def Ow (T:TypeId) (w:World) (g:Nat) (l:List Int):Prop:=w.heap[g]?=some (.cells (l.map (Value.int .i64)).toArray T (0,0))
section
variable {T:TypeId}{g:Nat}
theorem Ow.lt (h:Ow T w g l):g < w.heap.size:=by
  unfold Ow at h
  rcases Nat.lt_or_ge g w.heap.size with hlt | hge
  · exact hlt
  · rw[Array.getElem?_eq_none hge] at h;cases h
theorem Ow.cell (h:Ow T w g l) {k:Nat}(hk:k < l.length):w.cell? ⟨g,k,none⟩=some (.int .i64 (ix l k)):=by
  unfold Ow at h
  rw[cell_of_row w g k _ T (0,0) h]
  simp[ix,hk]
theorem Ow.frozen (h:Ow T w g l) (k:Nat):w.frozen? ⟨g,k,none⟩=false:=by
  unfold Ow at h
  simp[World.frozen?,h]
theorem Ow.set (h:Ow T w g l) (k:Nat) (x:Int):Ow T (w.setCell ⟨g,k,none⟩ (.int .i64 x)) g (l.set k x):=by
  unfold Ow at h ⊢
  simp[World.setCell,Array.getElem?_modify,h,List.map_set]
theorem Ow.setFar (h:Ow T w g l) {p:Addr}(hp:g≠p.block) (u:Value):Ow T (w.setCell p u) g l:=(Below.heap_setCell w p u g hp).trans h
theorem Ow.bl (h:Ow T w g l) (hb:Bl w W):Ow T W g l:=(Below.block hb g h.lt).trans h
theorem Ow.drewN (h:Ow T w g l) (q:Nat):Ow T (w.drewN q) g l:=h
theorem Ow.alloc (h:Ow T w g l) (o:Obj):Ow T (w.alloc o) g l:=h.bl ((Bl.refl w).alloc o)
theorem Ow.made (w:World) (n:Nat):Ow T (w.alloc (.cells (madeCells #[.int .i64 0] n) T)) w.heap.size (List.replicate n 0):=by
  unfold Ow
  rw[heap_alloc_new]
  congr 2
  apply Array.toList_inj.1
  rw[toList_madeCells_one]
  simp
/-- The block that make([]int, n) lays. -/
def mkInts (T:TypeId) (n:Nat):Obj:=.cells (madeCells #[.int .i64 0] n) T
theorem Ow.mk (w:World) (n:Nat):Ow T (w.alloc (mkInts T n)) w.heap.size (List.replicate n 0):=Ow.made w n
theorem make_ints {P:Program}{t e:TypeId}(ht:P.underlying t=some (.slice e)) (hinfo:(P.info? e).map (fun i =>(i.zero,i.size,i.bytes))=some (some (.int .i64 0),1,8))
    (n c:Nat) (hnc:n≤c) (hc:c≤1099511627776) (w:World) :
    (Instr.makeSlice t (.int .i64 (n:Int)) (.int .i64 (c:Int))).run P w=.ok (.slice (some ⟨w.heap.size,0,none⟩) n c) (w.alloc (mkInts e c)):=by
  obtain⟨i0,hi,hz0,hz1,hz2⟩:=info_parts hinfo
  have:=run_make (P:=P) w t e i0 (.int .i64 0) ht hi hz0 .i64 .i64 (n:Int) (c:Int) (by omega) (by omega) (by rw[hz2];omega) (by omega)
  rw[this,hz1]
  simp[mkInts,Value.cells]
/-- A slice of ints in memory of its own, from block b0 on: none, or the head of a whole block. -/
def OwI (T:TypeId) (b0:Nat) (w:World) (A:Option Addr) (n c:Nat) (l:List Int):Prop :=
  RdI w A n c l∧(n=0∨∃ g cs,A=some ⟨g,0,none⟩∧b0≤g∧w.heap[g]?=some (.cells cs T (0,0))∧n≤cs.size)
theorem Ow.rd (h:Ow T w g l) (hn:l.length≤9223372036854775807) {c:Nat}(hc:l.length≤c):RdI w (some ⟨g,0,none⟩) l.length c l :=
  ⟨rfl,hc,hn,fun k hk =>⟨⟨g,0,none⟩,rfl,h.lt,by
    have:=h.cell hk
    rw[Addr.add_lit,Nat.zero_add]
    exact this⟩⟩
theorem OwI.rd {b0:Nat}(h:OwI T b0 w A n c l):RdI w A n c l:=h.1
theorem OwI.bl {b0:Nat}(h:OwI T b0 w A n c l) (hb:Bl w W):OwI T b0 W A n c l:=by
  refine⟨h.1.bl hb,?_⟩
  rcases h.2 with h0 |⟨g,cs,e,hg,hh,hn⟩
  · exact .inl h0
  · exact .inr ⟨g, cs, e, hg, (Below.block hb g (by
      rcases Nat.lt_or_ge g w.heap.size with hlt | hge
      · exact hlt
      · rw[Array.getElem?_eq_none hge] at hh;cases hh)).trans hh,hn⟩
theorem OwI.mono {b0 b1:Nat}(h:OwI T b0 w A n c l) (hb:b1≤b0):OwI T b1 w A n c l:=by
  refine⟨h.1,?_⟩
  rcases h.2 with h0 |⟨g,cs,e,hg,r⟩
  · exact .inl h0
  · exact .inr ⟨g,cs,e,Nat.le_trans hb hg,r⟩
theorem OwI.nil (b0:Nat) (w:World) (A:Option Addr) (c:Nat):OwI T b0 w A 0 c []:=⟨RdI.nil w A c,.inl rfl⟩
end

/-- Raw data of a fraction: sign, limbs of the numerator, limbs of the denominator. -/
structure RatD where
  neg:Bool
  mag:List Int
  den:List Int
  deriving DecidableEq
structure PtD where
  x:RatD
  y:RatD
  deriving DecidableEq
structure RdR (w:World) (s:Bool) (A:Option Addr) (n c:Nat) (B:Option Addr) (m d:Nat) (r:RatD):Prop where
  neg:s=r.neg
  mag:RdI w A n c r.mag
  den:RdI w B m d r.den
variable {s:Bool}{r:RatD}
theorem RdR.bl (h:RdR w s A n c B m d r) (hb:Bl w W):RdR W s A n c B m d r:=⟨h.neg,h.mag.bl hb,h.den.bl hb⟩
theorem RdR.alloc (h:RdR w s A n c B m d r) (o:Obj):RdR (w.alloc o) s A n c B m d r:=⟨h.neg,h.mag.alloc o,h.den.alloc o⟩
theorem RdR.drew (h:RdR w s A n c B m d r):RdR w.drew s A n c B m d r:=⟨h.neg,h.mag.drew,h.den.drew⟩
end

/-- The six cells of a point. -/
def PtAt (w:World) (p:Addr) (pt:PtD):Prop :=
  ∃ s A n c B m d t C i e D j f, (w.cell? p = some (.bool s) ∧ w.cell? ⟨p.block, p.off + 1, none⟩ = some (.slice A n c) ∧ w.cell? ⟨p.block, p.off + 2, none⟩ = some (.slice B m d) ∧
    w.cell? ⟨p.block,p.off+3,none⟩=some (.bool t)∧w.cell? ⟨p.block,p.off+4,none⟩=some (.slice C i e)∧w.cell? ⟨p.block,p.off+5,none⟩=some (.slice D j f)) ∧
    RdR w s A n c B m d pt.x∧RdR w t C i e D j f pt.y
theorem PtAt.bl {w W:World}{p:Addr}{pt:PtD}(h:PtAt w p pt) (hp:p.block < w.heap.size) (hb:Bl w W):PtAt W p pt:=by
  obtain⟨s,A,n,c,B,m,d,t,C,i,e,D,j,f,⟨h0,h1,h2,h3,h4,h5⟩,hx,hy⟩:=h
  refine⟨s,A,n,c,B,m,d,t,C,i,e,D,j,f,⟨?_,?_,?_,?_,?_,?_⟩,hx.bl hb,hy.bl hb⟩
  · rw[hb.cellOf hp];exact h0
  · rw[hb.cellOf (p:=⟨p.block,p.off+1,none⟩) hp];exact h1
  · rw[hb.cellOf (p:=⟨p.block,p.off+2,none⟩) hp];exact h2
  · rw[hb.cellOf (p:=⟨p.block,p.off+3,none⟩) hp];exact h3
  · rw[hb.cellOf (p:=⟨p.block,p.off+4,none⟩) hp];exact h4
  · rw[hb.cellOf (p:=⟨p.block,p.off+5,none⟩) hp];exact h5

instance:Inhabited RatD:=⟨⟨false,[],[]⟩⟩
instance:Inhabited PtD:=⟨⟨default,default⟩⟩
structure TriD where
  a:Int
  b:Int
  c:Int
  region:Int
  level:Int
  deriving DecidableEq,Inhabited
def TrAt (w:World) (p:Addr) (t:TriD):Prop :=
  w.cell? p = some (.int .i64 t.a) ∧ w.cell? ⟨p.block, p.off + 1, none⟩ = some (.int .i64 t.b) ∧ w.cell? ⟨p.block, p.off + 2, none⟩ = some (.int .i64 t.c) ∧
    w.cell? ⟨p.block,p.off+3,none⟩=some (.int .i64 t.region)∧w.cell? ⟨p.block,p.off+4,none⟩=some (.int .i64 t.level)
theorem TrAt.bl {w W:World}{p:Addr}{t:TriD}(h:TrAt w p t) (hp:p.block < w.heap.size) (hb:Bl w W):TrAt W p t:=by
  obtain⟨h0,h1,h2,h3,h4⟩:=h
  refine⟨?_,?_,?_,?_,?_⟩
  · rw[hb.cellOf hp];exact h0
  · rw[hb.cellOf (p:=⟨p.block,p.off+1,none⟩) hp];exact h1
  · rw[hb.cellOf (p:=⟨p.block,p.off+2,none⟩) hp];exact h2
  · rw[hb.cellOf (p:=⟨p.block,p.off+3,none⟩) hp];exact h3
  · rw[hb.cellOf (p:=⟨p.block,p.off+4,none⟩) hp];exact h4

/-- Element k of a list (a plain def: the walk leaves it closed). -/
def pix {α:Type} [Inhabited α] (l:List α) (k:Nat):α:=l.getD k default

/-- A slice of elements of 'size' cells each that reads as a list of data; 'At' says how one element reads. -/
structure RdS {α:Type} [Inhabited α] (size:Nat) (At:World→Addr→α→Prop) (w:World) (A:Option Addr) (n c:Nat) (l:List α):Prop where
  len:l.length=n
  cap:n≤c
  small:n≤9223372036854775807
  cells:∀ k,k < n→∃ ad,A=some ad∧ad.block < w.heap.size∧At w (ad.add (k * size)) (pix l k)
section
variable {α:Type} [Inhabited α] {size:Nat}{At:World→Addr→α→Prop}{w W:World}{A:Option Addr}{n c:Nat}{l:List α}
theorem RdS.bl (hAt:∀ {w W:World}{p:Addr}{x:α},At w p x→p.block < w.heap.size→Bl w W→At W p x) (h:RdS size At w A n c l) (hb:Bl w W):RdS size At W A n c l :=
  ⟨h.len,h.cap,h.small,fun k hk=> by
    obtain⟨ad,e,hlt,hc⟩:=h.cells k hk
    exact⟨ad,e,Nat.lt_of_lt_of_le hlt hb.size,hAt hc (by rw[block_add];exact hlt) hb⟩⟩
theorem RdS.nil (w:World) (A:Option Addr) (c:Nat):RdS size At w A 0 c ([]:List α):=⟨rfl,Nat.zero_le _,by omega,fun k hk=> by omega⟩
end
abbrev RdPS:=RdS 6 PtAt
abbrev RdTS:=RdS 5 TrAt
theorem RdPS.bl {w W:World}{A:Option Addr}{n c:Nat}{l:List PtD}(h:RdPS w A n c l) (hb:Bl w W):RdPS W A n c l:=RdS.bl (fun h hp hb=> h.bl hp hb) h hb
theorem RdTS.bl {w W:World}{A:Option Addr}{n c:Nat}{l:List TriD}(h:RdTS w A n c l) (hb:Bl w W):RdTS W A n c l:=RdS.bl (fun h hp hb=> h.bl hp hb) h hb

/-- A footprint: blocks that all differ, from lo on, below hi. -/
def Fp (lo hi:Nat) (bs:List Nat):Prop:=bs.Nodup∧∀ b ∈ bs,lo≤b∧b < hi
theorem Fp.nil (lo hi:Nat):Fp lo hi []:=⟨List.nodup_nil,fun b hb=> by cases hb⟩
theorem Fp.one {lo hi g:Nat}(h1:lo≤g) (h2:g < hi):Fp lo hi [g]:=⟨by simp,fun b hb=> by simp at hb;subst hb;exact⟨h1,h2⟩⟩
theorem Fp.app {lo mid mid' hi:Nat}{a b:List Nat}(h:Fp lo mid a) (k:Fp mid' hi b) (hm:mid≤mid') (h1:lo≤mid) (h2:mid'≤hi):Fp lo hi (a ++ b):=by
  refine⟨List.nodup_append.2 ⟨h.1,k.1,fun x hx y hy e=> ?_⟩,fun x hx=> ?_⟩
  · subst e;have:=h.2 x hx;have:=k.2 x hy;omega
  · rcases List.mem_append.1 hx with hx | hx
    · have:=h.2 x hx;omega
    · have:=k.2 x hx;omega
theorem Fp.mono {lo lo' hi hi':Nat}{a:List Nat}(h:Fp lo hi a) (h1:lo'≤lo) (h2:hi≤hi'):Fp lo' hi' a :=
  ⟨h.1,fun b hb=> by have:=h.2 b hb;omega⟩

/-- A slice of ints that reads as l, in memory of its own, with its footprint: no block where it is empty. -/
def FtI (T:TypeId) (w:World) (A:Option Addr) (n c:Nat) (l:List Int) (bs:List Nat):Prop :=
  RdI w A n c l∧((n=0∧bs=[])∨∃ g cs,0 < n∧A=some ⟨g,0,none⟩∧w.heap[g]?=some (.cells cs T (0,0))∧n≤cs.size∧bs=[g])
theorem heap_lt {w:World}{g:Nat}{o:Obj}(h:w.heap[g]?=some o):g < w.heap.size:=by
  rcases Nat.lt_or_ge g w.heap.size with hlt | hge
  · exact hlt
  · rw[Array.getElem?_eq_none hge] at h;cases h
section
variable {T:TypeId}{w W:World}{A B:Option Addr}{n c m d:Nat}{l:List Int}{bs:List Nat}
/-- What is the same in the blocks of a footprint. -/
theorem FtI.keep (h:FtI T w A n c l bs) (hs:w.heap.size≤W.heap.size) (hk:∀ b ∈ bs,W.heap[b]?=w.heap[b]?):FtI T W A n c l bs:=by
  obtain⟨hr,h2⟩:=h
  rcases h2 with ⟨h0,hb⟩ |⟨g,cs,hn,rfl,hh,hsz,rfl⟩
  · exact⟨⟨hr.len,hr.cap,hr.small,fun k hk=> by omega⟩,.inl ⟨h0,hb⟩⟩
  · have hg:W.heap[g]?=w.heap[g]?:=hk g (by simp)
    refine⟨⟨hr.len,hr.cap,hr.small,fun k hk=> ?_⟩,.inr ⟨g,cs,hn,rfl,by rw[hg];exact hh,hsz,rfl⟩⟩
    obtain⟨ad,e,hlt,hc⟩:=hr.cells k hk
    injection e with e
    subst e
    refine⟨_,rfl,Nat.lt_of_lt_of_le hlt hs,?_⟩
    rw[World.cell?_of_block (w:=w) (by rw[block_add];exact hg)]
    exact hc
theorem FtI.bl (h:FtI T w A n c l bs) (hb:Bl w W):FtI T W A n c l bs:=by
  refine h.keep hb.size fun b hm=> Below.block hb b ?_
  rcases h.2 with ⟨_,e⟩ |⟨g,cs,_,_,hh,_,e⟩
  · rw[e] at hm;cases hm
  · rw[e] at hm;simp at hm;subst hm;exact heap_lt hh
theorem FtI.of_own {b0:Nat}(h:OwI T b0 w A n c l):∃ bs,FtI T w A n c l bs∧Fp b0 w.heap.size bs:=by
  obtain⟨hr,h2⟩:=h
  rcases Nat.eq_zero_or_pos n with h0 | h0
  · exact⟨[],⟨hr,.inl ⟨h0,rfl⟩⟩,Fp.nil _ _⟩
  · rcases h2 with h2 |⟨g,cs,e,hg,hh,hn⟩
    · omega
    · exact⟨[g],⟨hr,.inr ⟨g,cs,h0,e,hh,hn,rfl⟩⟩,Fp.one hg (heap_lt hh)⟩

/-- A fraction in memory of its own. -/
def FtR (T:TypeId) (w:World) (s:Bool) (A:Option Addr) (n c:Nat) (B:Option Addr) (m d:Nat) (r:RatD) (bs:List Nat):Prop :=
  s=r.neg∧∃ b1 b2,FtI T w A n c r.mag b1∧FtI T w B m d r.den b2∧bs=b1 ++ b2
variable {s:Bool}{r:RatD}
theorem FtR.rd (h:FtR T w s A n c B m d r bs):RdR w s A n c B m d r:=by
  obtain⟨h1,b1,b2,h2,h3,_⟩:=h
  exact⟨h1,h2.1,h3.1⟩
theorem FtR.keep (h:FtR T w s A n c B m d r bs) (hs:w.heap.size≤W.heap.size) (hk:∀ b ∈ bs,W.heap[b]?=w.heap[b]?):FtR T W s A n c B m d r bs:=by
  obtain⟨h1,b1,b2,h2,h3,rfl⟩:=h
  exact⟨h1,b1,b2,h2.keep hs fun b hb=> hk b (by simp[hb]),h3.keep hs fun b hb=> hk b (by simp[hb]),rfl⟩
theorem FtR.bl (h:FtR T w s A n c B m d r bs) (hb:Bl w W):FtR T W s A n c B m d r bs:=by
  obtain⟨h1,b1,b2,h2,h3,rfl⟩:=h
  exact⟨h1,b1,b2,h2.bl hb,h3.bl hb,rfl⟩
/-- A fraction in memory of its own from block b0 on. -/
def OwR (T:TypeId) (b0:Nat) (w:World) (s:Bool) (A:Option Addr) (n c:Nat) (B:Option Addr) (m d:Nat) (r:RatD):Prop :=
  ∃ bs,FtR T w s A n c B m d r bs∧Fp b0 w.heap.size bs
theorem OwR.rd {b0:Nat}(h:OwR T b0 w s A n c B m d r):RdR w s A n c B m d r:=by
  obtain⟨bs,h,_⟩:=h
  exact h.rd
theorem OwR.bl {b0:Nat}(h:OwR T b0 w s A n c B m d r) (hb:Bl w W):OwR T b0 W s A n c B m d r:=by
  obtain⟨bs,h,hf⟩:=h
  exact⟨bs,h.bl hb,hf.mono (Nat.le_refl _) hb.size⟩
theorem OwR.mono {b0 b1:Nat}(h:OwR T b0 w s A n c B m d r) (hb:b1≤b0):OwR T b1 w s A n c B m d r:=by
  obtain⟨bs,h,hf⟩:=h
  exact⟨bs,h,hf.mono hb (Nat.le_refl _)⟩
/-- Two slices made one after the other: the second one's memory is newer than all of the first one's. -/
theorem OwR.two {b0:Nat}{w1:World}{mag den:List Int}(h:OwI T b0 w1 A n c mag) (k:OwI T w1.heap.size w B m d den) (hb:Bl w1 w) (h0:b0≤w1.heap.size):OwR T b0 w s A n c B m d ⟨s,mag,den⟩:=by
  obtain⟨b1,h1,f1⟩:=FtI.of_own h
  obtain⟨b2,h2,f2⟩:=FtI.of_own k
  exact⟨b1 ++ b2,⟨rfl,b1,b2,h1.bl hb,h2,rfl⟩,f1.app f2 (Nat.le_refl _) h0 hb.size⟩

/-- A point whose six cells lie in cs from place i on, in memory of its own. -/
def PtIn (T:TypeId) (w:World) (cs:Array Value) (i:Nat) (pt:PtD) (bs:List Nat):Prop :=
  ∃ s A n c B m d t C j e D k f b1 b2, (cs[i]? = some (.bool s) ∧ cs[i + 1]? = some (.slice A n c) ∧ cs[i + 2]? = some (.slice B m d) ∧
    cs[i+3]?=some (.bool t)∧cs[i+4]?=some (.slice C j e)∧cs[i+5]?=some (.slice D k f)) ∧
    FtR T w s A n c B m d pt.x b1∧FtR T w t C j e D k f pt.y b2∧bs=b1 ++ b2
end

/-- A block that is known whole. -/
def Blk (w:World) (g:Nat) (T:TypeId) (cs:Array Value):Prop:=w.heap[g]?=some (.cells cs T (0,0))
section
variable {w W:World}{g:Nat}{T:TypeId}{cs:Array Value}
theorem Blk.lt (h:Blk w g T cs):g < w.heap.size:=heap_lt h
theorem Blk.cell (h:Blk w g T cs) (i:Nat):w.cell? ⟨g,i,none⟩=cs[i]?:=cell_of_row w g i cs T (0,0) h
theorem Blk.some (h:Blk w g T cs) {i:Nat}(hi:i < cs.size):∃ v,w.cell? ⟨g,i,none⟩=some v:=⟨cs[i],by rw[h.cell i];exact Array.getElem?_eq_getElem hi⟩
theorem Blk.frozen (h:Blk w g T cs) (i:Nat):w.frozen? ⟨g,i,none⟩=false:=by
  unfold Blk at h
  simp[World.frozen?,h]
theorem Blk.bl (h:Blk w g T cs) (hb:Bl w W):Blk W g T cs:=(Below.block hb g h.lt).trans h
theorem Blk.set_ (h:Blk w g T cs) (i:Nat) (u:Value):Blk (w.setCell ⟨g,i,none⟩ u) g T (cs.setIfInBounds i u):=by
  unfold Blk at h ⊢
  simp[World.setCell,Array.getElem?_modify,h]
theorem Blk.far (h:Blk w g T cs) {p:Addr}(hp:g≠p.block) (u:Value):Blk (w.setCell p u) g T cs:=(Below.heap_setCell w p u g hp).trans h
end
/-- The block that make([]T, n) lays; z: the cells of one element. -/
def mkObjs (z:Array Value) (size:Nat) (T:TypeId) (n:Nat):Obj:=.cells (madeCells z (n * size)) T
theorem Blk.mk (w:World) (z:Array Value) (size:Nat) (T:TypeId) (n:Nat):Blk (w.alloc (mkObjs z size T n)) w.heap.size T (madeCells z (n * size)):=heap_alloc_new w _
theorem make_objs {P:Program}{t e:TypeId}{z:Value}{size bytes:Nat}(ht:P.underlying t=some (.slice e)) (hinfo:(P.info? e).map (fun i =>(i.zero,i.size,i.bytes))=some (some z,size,bytes)) (hby:bytes≤128)
    (n c:Nat) (hnc:n≤c) (hc:c≤1099511627776) (w:World) :
    (Instr.makeSlice t (.int .i64 (n:Int)) (.int .i64 (c:Int))).run P w=.ok (.slice (some ⟨w.heap.size,0,none⟩) n c) (w.alloc (mkObjs z.cells size e c)):=by
  obtain⟨i0,hi,hz0,hz1,hz2⟩:=info_parts hinfo
  have hb:(bytes:Int) * (c:Int)≤281474976710656:=by
    have h1:(bytes:Int) * (c:Int)≤128 * (c:Int):=Int.mul_le_mul_of_nonneg_right (by omega) (by omega)
    omega
  have:=run_make (P:=P) w t e i0 z ht hi hz0 .i64 .i64 (n:Int) (c:Int) (by omega) (by omega) (by rw[hz2];exact hb) (by omega)
  rw[this,hz1]
  simp[mkObjs]

/-- The footprints of a list of points whose cells lie in cs one behind the other. -/
def PtsIn (T:TypeId) (w:World) (cs:Array Value) (l:List PtD) (k:Nat) (fs:List (List Nat)):Prop :=
  fs.length=k∧∀ i,i < k→PtIn T w cs (i * 6) (pix l i) (pix fs i)

theorem FtI.of_ow {T:TypeId}{w:World}{g n:Nat}{l:List Int}(h:Ow T w g l) (hl:l.length=n) (hn:n≤9223372036854775807):∃ bs,FtI T w (some ⟨g,0,none⟩) n n l bs∧Fp g (g+1) bs:=by
  subst hl
  rcases Nat.eq_zero_or_pos l.length with h0 | h0
  · exact⟨[],⟨h.rd hn (Nat.le_refl _),.inl ⟨h0,rfl⟩⟩,Fp.nil _ _⟩
  · exact⟨[g],⟨h.rd hn (Nat.le_refl _),.inr ⟨g,_,h0,rfl,h,by simp,rfl⟩⟩,Fp.one (Nat.le_refl _) (by omega)⟩
section
variable {T:TypeId}{w W:World}{cs cs':Array Value}{i:Nat}{p:PtD}{bs:List Nat}
theorem PtIn.keep (h:PtIn T w cs i p bs) (hc:∀ j,j < 6→cs'[i+j]?=cs[i+j]?) (hs:w.heap.size≤W.heap.size) (hk:∀ b ∈ bs,W.heap[b]?=w.heap[b]?):PtIn T W cs' i p bs:=by
  obtain⟨s,A,n,c,B,m,d,t,C,j,e,D,k,f,b1,b2,⟨h0,h1,h2,h3,h4,h5⟩,hx,hy,rfl⟩:=h
  refine⟨s,A,n,c,B,m,d,t,C,j,e,D,k,f,b1,b2,⟨?_,?_,?_,?_,?_,?_⟩,hx.keep hs fun b hb=> hk b (by simp[hb]),hy.keep hs fun b hb=> hk b (by simp[hb]),rfl⟩
  · rw[← h0];exact hc 0 (by omega)
  · rw[← h1];exact hc 1 (by omega)
  · rw[← h2];exact hc 2 (by omega)
  · rw[← h3];exact hc 3 (by omega)
  · rw[← h4];exact hc 4 (by omega)
  · rw[← h5];exact hc 5 (by omega)
end
theorem mem_flatten_pix {fs:List (List Nat)}{i:Nat}{b:Nat}(hb:b ∈ pix fs i):b ∈ fs.flatten:=by
  unfold pix at hb
  rcases Nat.lt_or_ge i fs.length with h | h
  · rw[List.getD_eq_getElem?_getD,List.getElem?_eq_getElem h] at hb
    exact List.mem_flatten.2 ⟨_,List.getElem_mem h,hb⟩
  · rw[List.getD_eq_getElem?_getD,List.getElem?_eq_none h] at hb
    cases hb
theorem pix_append_left {α:Type} [Inhabited α] {a b:List α}{i:Nat}(h:i < a.length):pix (a ++ b) i=pix a i:=by
  unfold pix;rw[List.getD_eq_getElem?_getD,List.getD_eq_getElem?_getD,List.getElem?_append_left h]
theorem pix_append_last {α:Type} [Inhabited α] {a:List α}{x:α}:pix (a ++ [x]) a.length=x:=by
  unfold pix;simp[List.getD]
theorem set6_size {cs:Array Value}{i:Nat}{x0 x1 x2 x3 x4 x5:Value}:((((((cs.setIfInBounds i x0).setIfInBounds (i+1) x1).setIfInBounds (i+2) x2).setIfInBounds (i+3) x3).setIfInBounds (i+4) x4).setIfInBounds (i+5) x5).size=cs.size:=by simp
theorem set6_far {cs:Array Value}{i q:Nat}{x0 x1 x2 x3 x4 x5:Value}(h:q < i∨i+5 < q):((((((cs.setIfInBounds i x0).setIfInBounds (i+1) x1).setIfInBounds (i+2) x2).setIfInBounds (i+3) x3).setIfInBounds (i+4) x4).setIfInBounds (i+5) x5)[q]?=cs[q]?:=by
  rw[Array.getElem?_setIfInBounds_ne (by omega),Array.getElem?_setIfInBounds_ne (by omega),Array.getElem?_setIfInBounds_ne (by omega),Array.getElem?_setIfInBounds_ne (by omega),Array.getElem?_setIfInBounds_ne (by omega),Array.getElem?_setIfInBounds_ne (by omega)]
theorem set6_at {cs:Array Value}{i:Nat}{x0 x1 x2 x3 x4 x5:Value}(h:i+5 < cs.size):∀ z,z=((((((cs.setIfInBounds i x0).setIfInBounds (i+1) x1).setIfInBounds (i+2) x2).setIfInBounds (i+3) x3).setIfInBounds (i+4) x4).setIfInBounds (i+5) x5) →
    z[i]?=some x0∧z[i+1]?=some x1∧z[i+2]?=some x2∧z[i+3]?=some x3∧z[i+4]?=some x4∧z[i+5]?=some x5:=by
  rintro z rfl
  refine⟨?_,?_,?_,?_,?_,?_⟩ <;> simp[Array.getElem?_setIfInBounds] <;> omega

section
variable {T:TypeId}{w W:World}{cs:Array Value}{l:List PtD}{k:Nat}{fs:List (List Nat)}
theorem PtsIn.bl (h:PtsIn T w cs l k fs) (hb:Bl w W) (hf:∀ b ∈ fs.flatten,b < w.heap.size):PtsIn T W cs l k fs :=
  ⟨h.1,fun i hi =>(h.2 i hi).keep (fun _ _=> rfl) hb.size fun b hm=> Below.block hb b (hf b (mem_flatten_pix hm))⟩
theorem PtsIn.far (h:PtsIn T w cs l k fs) {p:Addr}(hp:∀ b ∈ fs.flatten,b≠p.block) (u:Value):PtsIn T (w.setCell p u) cs l k fs :=
  ⟨h.1,fun i hi =>(h.2 i hi).keep (fun _ _=> rfl) (by simp) fun b hm=> Below.heap_setCell w p u b (hp b (mem_flatten_pix hm))⟩
/-- One point more is stored behind the first k. -/
theorem PtsIn.step {g n:Nat}{TP:TypeId}(hP:PtsIn T w cs l k fs) (hB:Blk w g TP cs) (hcs:cs.size=n * 6) (hk:k < n) {lo:Nat}(hF:Fp (g+1) lo fs.flatten) (hlo:g+1≤lo) (_hg:lo≤w.heap.size)
    {s t:Bool}{n1 n2 n3 n4 g1 g2 g3 g4:Nat}(h1:lo≤g1) (h2:g1 < g2) (h3:g2 < g3) (h4:g3 < g4)
    (hs:s=(pix l k).x.neg) (ht:t=(pix l k).y.neg) (l1:(pix l k).x.mag.length=n1) (l2:(pix l k).x.den.length=n2) (l3:(pix l k).y.mag.length=n3) (l4:(pix l k).y.den.length=n4)
    (s1:n1≤9223372036854775807) (s2:n2≤9223372036854775807) (s3:n3≤9223372036854775807) (s4:n4≤9223372036854775807)
    (o1:Ow T w g1 (pix l k).x.mag) (o2:Ow T w g2 (pix l k).x.den) (o3:Ow T w g3 (pix l k).y.mag) (o4:Ow T w g4 (pix l k).y.den)
    (hW:W=(((((w.setCell ⟨g,k * 6,none⟩ (.bool s)).setCell ⟨g,k * 6+1,none⟩ (.slice (some ⟨g1,0,none⟩) n1 n1)).setCell ⟨g,k * 6+2,none⟩ (.slice (some ⟨g2,0,none⟩) n2 n2)).setCell ⟨g,k * 6+3,none⟩ (.bool t)).setCell ⟨g,k * 6+4,none⟩ (.slice (some ⟨g3,0,none⟩) n3 n3)).setCell ⟨g,k * 6+5,none⟩ (.slice (some ⟨g4,0,none⟩) n4 n4)) :
    ∃ cs' fs',Blk W g TP cs'∧cs'.size=n * 6∧PtsIn T W cs' l (k+1) fs'∧Fp (g+1) W.heap.size fs'.flatten:=by
  have hWs:W.heap.size=w.heap.size:=by rw[hW];simp
  have hkeep:∀ b,b≠g→W.heap[b]?=w.heap[b]?:=by
    intro b hb
    rw[hW]
    rw[Below.heap_setCell _ _ _ _ hb,Below.heap_setCell _ _ _ _ hb,Below.heap_setCell _ _ _ _ hb,Below.heap_setCell _ _ _ _ hb,Below.heap_setCell _ _ _ _ hb,Below.heap_setCell _ _ _ _ hb]
  have g4lt:=o4.lt
  obtain⟨b1,f1,p1⟩:=FtI.of_ow o1 l1 s1
  obtain⟨b2,f2,p2⟩:=FtI.of_ow o2 l2 s2
  obtain⟨b3,f3,p3⟩:=FtI.of_ow o3 l3 s3
  obtain⟨b4,f4,p4⟩:=FtI.of_ow o4 l4 s4
  have P12:=p1.app p2 (by omega) (by omega) (by omega)
  have P34:=p3.app p4 (by omega) (by omega) (by omega)
  have PA:=P12.app P34 (by omega) (by omega) (by omega)
  have hsz:w.heap.size≤W.heap.size:=by omega
  have hne:∀ {bs:List Nat}{lo' hi':Nat},Fp lo' hi' bs→g < lo'→∀ b ∈ bs,W.heap[b]?=w.heap[b]?:=fun hp hl b hb=> hkeep b (by have:=(hp.2 b hb).1;omega)
  have hst:=set6_at (cs:=cs) (i:=k * 6) (x0:=.bool s) (x1:=.slice (some ⟨g1,0,none⟩) n1 n1) (x2:=.slice (some ⟨g2,0,none⟩) n2 n2) (x3:=.bool t) (x4:=.slice (some ⟨g3,0,none⟩) n3 n3) (x5:=.slice (some ⟨g4,0,none⟩) n4 n4) (by omega) _ rfl
  obtain⟨a0,a1,a2,a3,a4,a5⟩:=hst
  refine⟨_,fs ++ [(b1 ++ b2) ++ (b3 ++ b4)],by rw[hW];exact(((((hB.set_ _ _).set_ _ _).set_ _ _).set_ _ _).set_ _ _).set_ _ _,by rw[set6_size];exact hcs,⟨by simp[hP.1],fun i hi=> ?_⟩,?_⟩
  · rcases Nat.lt_succ_iff_lt_or_eq.1 hi with hi | rfl
    · rw[pix_append_left (a:=fs) (by rw[hP.1];exact hi)]
      refine(hP.2 i hi).keep (fun j hj=> set6_far (.inl (by omega))) hsz fun b hb=> hkeep b ?_
      have:=(hF.2 b (mem_flatten_pix hb)).1
      omega
    · have e:pix (fs ++ [(b1 ++ b2) ++ (b3 ++ b4)]) i=(b1 ++ b2) ++ (b3 ++ b4):=by rw[← hP.1];exact pix_append_last
      rw[e]
      exact⟨s,_,n1,n1,_,n2,n2,t,_,n3,n3,_,n4,n4,_,_,⟨a0,a1,a2,a3,a4,a5⟩,⟨hs,b1,b2,f1.keep hsz (hne p1 (by omega)),f2.keep hsz (hne p2 (by omega)),rfl⟩,
        ⟨ht,b3,b4,f3.keep hsz (hne p3 (by omega)),f4.keep hsz (hne p4 (by omega)),rfl⟩,rfl⟩
  · rw[List.flatten_append]
    simp only[List.flatten_cons,List.flatten_nil,List.append_nil]
    exact hF.app (PA.mono (Nat.le_refl _) (by omega)) (by omega) (by omega) (by omega)
end

/-- A point whose cells lie in a block of cells reads as a point there. -/
theorem PtIn.at_ {T:TypeId}{w:World}{g:Nat}{TP:TypeId}{cs:Array Value}{i:Nat}{p:PtD}{bs:List Nat}(h:PtIn T w cs i p bs) (hB:Blk w g TP cs):PtAt w ⟨g,i,none⟩ p:=by
  obtain⟨s,A,n,c,B,m,d,t,C,j,e,D,k,f,b1,b2,⟨h0,h1,h2,h3,h4,h5⟩,hx,hy,_⟩:=h
  exact⟨s,A,n,c,B,m,d,t,C,j,e,D,k,f,⟨(hB.cell _).trans h0,(hB.cell _).trans h1,(hB.cell _).trans h2,(hB.cell _).trans h3,(hB.cell _).trans h4,(hB.cell _).trans h5⟩,hx.rd,hy.rd⟩
theorem PtsIn.rd {T:TypeId}{w:World}{g:Nat}{TP:TypeId}{cs:Array Value}{l:List PtD}{fs:List (List Nat)}{n c:Nat}(h:PtsIn T w cs l n fs) (hB:Blk w g TP cs) (hl:l.length=n) (hn:n≤9223372036854775807) (hc:n≤c):RdPS w (some ⟨g,0,none⟩) n c l :=
  ⟨hl,hc,hn,fun k hk =>⟨_,rfl,hB.lt,by
    rw[Addr.add_lit,Nat.zero_add]
    exact(h.2 k hk).at_ hB⟩⟩
def TrIn (cs:Array Value) (i:Nat) (t:TriD):Prop :=
  cs[i]?=some (.int .i64 t.a)∧cs[i+1]?=some (.int .i64 t.b)∧cs[i+2]?=some (.int .i64 t.c)∧cs[i+3]?=some (.int .i64 t.region)∧cs[i+4]?=some (.int .i64 t.level)
def TrsIn (cs:Array Value) (l:List TriD) (k:Nat):Prop:=∀ i,i < k→TrIn cs (i * 5) (pix l i)
theorem TrsIn.rd {w:World}{g:Nat}{TT:TypeId}{cs:Array Value}{l:List TriD}{n c:Nat}(h:TrsIn cs l n) (hB:Blk w g TT cs) (hl:l.length=n) (hn:n≤9223372036854775807) (hc:n≤c):RdTS w (some ⟨g,0,none⟩) n c l :=
  ⟨hl,hc,hn,fun k hk =>⟨_,rfl,hB.lt,by
    rw[Addr.add_lit,Nat.zero_add]
    obtain⟨h0,h1,h2,h3,h4⟩:=h k hk
    exact⟨(hB.cell _).trans h0,(hB.cell _).trans h1,(hB.cell _).trans h2,(hB.cell _).trans h3,(hB.cell _).trans h4⟩⟩⟩
theorem TrsIn.step {cs:Array Value}{l:List TriD}{k n:Nat}(h:TrsIn cs l k) (hcs:cs.size=n * 5) (hk:k < n) :
    TrsIn (((((cs.setIfInBounds (k * 5) (.int .i64 (pix l k).a)).setIfInBounds (k * 5+1) (.int .i64 (pix l k).b)).setIfInBounds (k * 5+2) (.int .i64 (pix l k).c)).setIfInBounds (k * 5+3) (.int .i64 (pix l k).region)).setIfInBounds (k * 5+4) (.int .i64 (pix l k).level)) l (k+1):=by
  intro i hi
  rcases Nat.lt_succ_iff_lt_or_eq.1 hi with hi | rfl
  · have far:∀ q,q < k * 5→(((((cs.setIfInBounds (k * 5) (.int .i64 (pix l k).a)).setIfInBounds (k * 5+1) (.int .i64 (pix l k).b)).setIfInBounds (k * 5+2) (.int .i64 (pix l k).c)).setIfInBounds (k * 5+3) (.int .i64 (pix l k).region)).setIfInBounds (k * 5+4) (.int .i64 (pix l k).level))[q]?=cs[q]?:=by
      intro q hq
      rw[Array.getElem?_setIfInBounds_ne (by omega),Array.getElem?_setIfInBounds_ne (by omega),Array.getElem?_setIfInBounds_ne (by omega),Array.getElem?_setIfInBounds_ne (by omega),Array.getElem?_setIfInBounds_ne (by omega)]
    obtain⟨h0,h1,h2,h3,h4⟩:=h i hi
    exact⟨(far _ (by omega)).trans h0,(far _ (by omega)).trans h1,(far _ (by omega)).trans h2,(far _ (by omega)).trans h3,(far _ (by omega)).trans h4⟩
  · unfold TrIn
    refine⟨?_,?_,?_,?_,?_⟩ <;> simp[Array.getElem?_setIfInBounds] <;> omega

/-- The sum of a measure over the first k elements. -/
def sumTo {α:Type} [Inhabited α] (f:α→Nat) (l:List α):Nat→Nat
  | 0=> 0
  | k+1=> sumTo f l k+f (pix l k)
def szL {α:Type} [Inhabited α] (f:α→Nat) (l:List α):Nat:=l.length+sumTo f l l.length
theorem sumTo_le {α:Type} [Inhabited α] (f:α→Nat) (l:List α) {k n:Nat}(h:k≤n):sumTo f l k≤sumTo f l n:=by
  induction n with
  | zero => obtain rfl : k = 0 := by omega
            exact Nat.le_refl _
  | succ n ih =>
    rcases Nat.eq_or_lt_of_le h with rfl | h
    · exact Nat.le_refl _
    · exact Nat.le_trans (ih (by omega)) (by simp[sumTo])
theorem szL_at {α:Type} [Inhabited α] (f:α→Nat) (l:List α) {k:Nat}(h:k < l.length):f (pix l k)≤szL f l:=by
  have:=sumTo_le f l (show k+1≤l.length from h)
  simp only[sumTo] at this
  unfold szL
  omega
def szR (r:RatD):Nat:=r.mag.length+r.den.length
def szP (p:PtD):Nat:=szR p.x+szR p.y

structure MeD where
  points:List PtD
  tris:List TriD
  deriving DecidableEq
def szM (m:MeD):Nat:=szL szP m.points+m.tris.length

/-- The world under one name, with what is known of it. -/
theorem wp_gen {P:Program}{c:Code}{Q:Exit→Act→World→Prop}{a:Act}{W:World}(Rel:World→Prop) (h0:Rel W) (h:∀ w2,Rel w2→Code.wp P c Q a w2):Code.wp P c Q a W:=h W h0
theorem calls_gen {P:Program}{f:FuncId}{args:Array Value}{W:World}{R:Ending→World→Prop}(Rel:World→Prop) (h0:Rel W) (h:∀ w2,Rel w2→Calls P f args w2 R):Calls P f args W R:=h W h0
theorem Blk.new (w:World) (T:TypeId) (cs:Array Value):Blk (w.alloc (.cells cs T)) w.heap.size T cs:=heap_alloc_new w _

theorem info_int:(Tryz.prog.info? 3).map (fun i =>(i.zero,i.size,i.bytes))=some (some (.int .i64 0),1,8):=by kernel_rfl

/-- The slice value v is the call's own, from block 'base' on, and holds the ints l. -/
def OwL (E:TypeId) (base:Nat) (w:World) (v:Value) (l:List Int):Prop:=w.ownsRow base E 1 v l.length (l.map (Value.int .i64))
section
variable {E:TypeId}{base:Nat}{w W:World}{v:Value}{l:List Int}
theorem OwL.alloc (h:OwL E base w v l) (o:Obj):OwL E base (w.alloc o) v l:=World.ownsRow.alloc h o
theorem OwL.drew (h:OwL E base w v l):OwL E base w.drew v l:=h
theorem OwL.bl (h:OwL E base w v l) (hb:Bl w W):OwL E base W v l:=by
  refine⟨h.1,?_⟩
  rcases h.2 with h2 |⟨g,cap,cur,hv,hg,hh,r⟩
  · exact .inl h2
  · exact .inr ⟨g,cap,cur,hv,hg,(Below.block hb g (heap_lt hh)).trans hh,r⟩
/-- Room made by 'make([]int, 0, n)', or an empty literal. -/
theorem OwL.empty (w:World) {cur:Array Value}(hb:base≤w.heap.size) (hm:cur.size≤maxLen):OwL E base (w.alloc (.cells cur E)) (.slice (some ⟨w.heap.size,0,none⟩) 0 cur.size) [] :=
  World.ownsRow_made w cur cur.size hb hm (by simp)
theorem OwL.room (w:World) (n:Nat) (hb:base≤w.heap.size) (hm:n≤maxLen):OwL E base (w.alloc (mkInts E n)) (.slice (some ⟨w.heap.size,0,none⟩) 0 n) [] :=
  World.ownsRow_made w (madeCells #[.int .i64 0] n) n hb hm (by rw[size_madeCells];omega)
theorem OwL.blockLe (h:OwL E base w v l):∀ k,v.ownBlock=some k→base≤k:=fun k hk =>(World.ownsRow.lt h k hk).1
theorem OwL.own (h:OwL E base w v l) (hl:l.length≤9223372036854775807):∃ A c,v=.slice A l.length c∧OwI E base w A l.length c l:=by
  have hx:=h.1
  rcases h.2 with ⟨rfl,h0⟩ |⟨g,cap,cur,rfl,hg,hh,hn,hm,hs,ht⟩
  · refine⟨none,0,by rw[h0],⟨⟨rfl,by omega,hl,fun k hk=> by omega⟩,.inl h0⟩⟩
  · refine⟨some ⟨g,0,none⟩,cap,rfl,⟨⟨rfl,hn,hl,fun k hk =>⟨_,rfl,heap_lt hh,?_⟩⟩,.inr ⟨g,cur,rfl,hg,hh,by omega⟩⟩⟩
    have:=World.ownsRow.cells h (g:=g) rfl k (.int .i64 (ix l k)) (by simp[ix,hk])
    exact this
end
theorem wpList_append_int {P:Program}{E t:TypeId}(hinfo:(P.info? E).map (fun i =>(i.zero,i.size,i.bytes))=some (some (.int .i64 0),1,8)) (ht:P.underlying t=some (.slice E))
    {w0 W:World}{x0:Int}{ops:Array Oper}{rest:List Oper}{o:Oper}{a:Act}{Q:Exit→Act→World→Prop}(hgd:o.guard=none) (s x:Operand)
    (ho:o.op=.call { callee:=.builtin .append,args:=#[s,x],argTypes:=#[t,t] }) (v:Value) (l:List Int) (hs:a.eval s=v) (hown:OwL E w0.heap.size W v l) (hb:Bl w0 W)
    (c:Nat) (hx:a.eval x=.slice (some ⟨W.heap.size,0,none⟩) 1 c) (hlen:l.length≤1099511627776)
    (h:∀ v' w',OwL E w0.heap.size w' v' (l ++ [x0])→Bl w0 w'→wpList P ops Q rest (a.put o.dst v') w'):wpList P ops Q (o :: rest) a (W.alloc (.cells #[.int .i64 x0] E)):=by
  obtain⟨i0,hi,hz0,hz1,hz2⟩:=info_parts hinfo
  have ho':=hown.alloc (.cells #[.int .i64 x0] E)
  have hbs:w0.heap.size≤(W.alloc (.cells #[.int .i64 x0] E)).heap.size:=by have:=hb.size;simp;omega
  refine wpList_append_own _ hgd s x t ho w0.heap.size E i0 (.int .i64 0) 1 8 ht hi hz0 hz1 hz2 rfl (by omega) v l.length (l.map (Value.int .i64)) hs ho' ⟨W.heap.size,0,none⟩ 1 c [.int .i64 x0] hx rfl (cell_one_new _ _ _) (by intro u hu;simp at hu;subst hu;rfl) (by simp only[maxLen];omega) (by omega) hbs ?_
  intro v' w' h1 h2 _
  refine h v' w' ?_ ((hb.alloc _).grown h2 ho'.blockLe)
  unfold OwL
  simpa using h1

/-- A quiet callee met behind earlier draws: the draws add up. -/
theorem quiet_add {P:Program}{f:FuncId}{args:Array Value}{w:World}{a n:Nat}{v:Value}
    (h:Calls P f args (w.drewN (a+n)) fun e w'=> e=.returned v∧∃ m,w'=(w.drewN (a+n)).drewN m) :
    Calls P f args (w.drewN (a+n)) fun e w''=> e=.returned v∧∃ m,w''=w.drewN (a+m) :=
  h.mono fun _ _ ⟨he,m,hm⟩ =>⟨he,n+m,by rw[hm,World.drewN_drewN,Nat.add_assoc]⟩

theorem q_drewN {w a:World}{n:Nat}(h:∃ q,a=w.drewN q):∃ q,a.drewN n=w.drewN q:=by
  obtain⟨q,rfl⟩:=h
  exact⟨q+n,by rw[World.drewN_drewN]⟩
theorem q_bl {w a:World}(h:∃ q,a=w.drewN q):Bl w a:=by
  obtain⟨q,rfl⟩:=h
  exact(Bl.refl w).drewN q

theorem ret_bool {a b:Bool}(h:a=b):Ending.returned (.bool a)=.returned (.bool b):=by rw[h]
theorem ret_int {k:IntKind}{a b:Int}(h:a=b):Ending.returned (.int k a)=.returned (.int k b):=by rw[h]
/-- What is to be shown of a later world goes by itself. -/
theorem slc {P:Prop}(h:P:=by repeat (first |(with_reducible first | assumption | exact Bl.refl _ | refine Bl.drewN ?_ _ | refine Bl.drew ?_ | refine Bl.alloc ?_ _) |(with_reducible refine Bl.set ?_ (by simp <;> omega) _) |(with_reducible refine Bl.next ?_ ‹_›))):P:=h
end

end Go.Proofs.YtjaapemopbbfaaaGreat
