/- Lemmas. -/
import Derived.Test.YtjaapemopbbfaaaGreatRows
import Derived.Test.YtjaapemopbbfaaaGreatPWorstShapeM36
import Derived.Test.YtjaapemopbbfaaaGreatPWorstShapeM24
import Derived.Test.YtjaapemopbbfaaaGreatPWorstShapeM26
import Derived.Test.YtjaapemopbbfaaaGreatPWorstShapeM35
import Derived.Test.YtjaapemopbbfaaaGreatPWorstShapeM21
import Derived.OrdersHeld
import Derived.Deep.RegionHeld
import Derived.Deep.Cut
import Derived.Deep.DeepCutAuto
namespace Go.Proofs.YtjaapemopbbfaaaGreat
section
open Go.RowKit

instance:Inhabited BxQ:=⟨⟨0,0,0,0⟩⟩
/-- The cell i of a block holds a list of points that reads wherever the blocks bs are kept. -/
def PsE (w:World) (cs:Array Value) (i:Nat) (l:List PtD) (bs:List Nat):Prop :=
  ∃ g n c,cs[i]?=some (.slice (some ⟨g,0,none⟩) n c)∧∀ W:World,w.heap.size≤W.heap.size→(∀ b ∈ bs,W.heap[b]?=w.heap[b]?)→RdPS W (some ⟨g,0,none⟩) n c l
theorem psE_keep:KeepE 1 PsE:=by
  intro w W cs cs' i i' x bs h hc hs hb
  obtain⟨g,n,c,h0,h1⟩:=h
  exact⟨g,n,c,(hc 0 (by omega)).trans h0,fun X hX hk=> h1 X (Nat.le_trans hs hX) fun b hm =>(hk b hm).trans (hb b hm)⟩
/-- Twelve cells of a block hold a rectangle that reads wherever the blocks bs are kept. -/
def BxE (w:World) (cs:Array Value) (i:Nat) (x:BxQ) (bs:List Nat):Prop :=
  ∃ u0 u1 u2 u3 u4 u5 u6 u7 u8 u9 u10 u11,(cs[i]?=some u0∧cs[i+1]?=some u1∧cs[i+2]?=some u2∧cs[i+3]?=some u3∧cs[i+4]?=some u4∧cs[i+5]?=some u5∧cs[i+6]?=some u6∧cs[i+7]?=some u7∧cs[i+8]?=some u8∧cs[i+9]?=some u9∧cs[i+10]?=some u10∧cs[i+11]?=some u11)∧∀ W:World,w.heap.size≤W.heap.size→(∀ b ∈ bs,W.heap[b]?=w.heap[b]?)→RdV W u0 u1 u2 (toR x.l)∧RdV W u3 u4 u5 (toR x.r)∧RdV W u6 u7 u8 (toR x.lo)∧RdV W u9 u10 u11 (toR x.hi)
theorem bxE_keep:KeepE 12 BxE:=by
  intro w W cs cs' i i' x bs h hc hs hb
  obtain⟨u0,u1,u2,u3,u4,u5,u6,u7,u8,u9,u10,u11,⟨h0,h1,h2,h3,h4,h5,h6,h7,h8,h9,h10,h11⟩,hr⟩:=h
  exact⟨u0,u1,u2,u3,u4,u5,u6,u7,u8,u9,u10,u11,⟨(hc 0 (by omega)).trans h0,(hc 1 (by omega)).trans h1,(hc 2 (by omega)).trans h2,(hc 3 (by omega)).trans h3,(hc 4 (by omega)).trans h4,(hc 5 (by omega)).trans h5,(hc 6 (by omega)).trans h6,(hc 7 (by omega)).trans h7,(hc 8 (by omega)).trans h8,(hc 9 (by omega)).trans h9,(hc 10 (by omega)).trans h10,(hc 11 (by omega)).trans h11⟩,fun X hX hk=> hr X (Nat.le_trans hs hX) fun b hm =>(hk b hm).trans (hb b hm)⟩
/-- A cell that holds a list of points. -/
def PsAt (w:World) (p:Addr) (l:List PtD):Prop:=∃ g n c,w.cell? p=some (.slice (some ⟨g,0,none⟩) n c)∧RdPS w (some ⟨g,0,none⟩) n c l
/-- Twelve cells that hold a rectangle. -/
def BxAt (w:World) (p:Addr) (x:BxQ):Prop:=∃ u0 u1 u2 u3 u4 u5 u6 u7 u8 u9 u10 u11,(w.cell? p=some u0∧w.cell? ⟨p.block,p.off+1,none⟩=some u1∧w.cell? ⟨p.block,p.off+2,none⟩=some u2∧w.cell? ⟨p.block,p.off+3,none⟩=some u3∧w.cell? ⟨p.block,p.off+4,none⟩=some u4∧w.cell? ⟨p.block,p.off+5,none⟩=some u5∧w.cell? ⟨p.block,p.off+6,none⟩=some u6∧w.cell? ⟨p.block,p.off+7,none⟩=some u7∧w.cell? ⟨p.block,p.off+8,none⟩=some u8∧w.cell? ⟨p.block,p.off+9,none⟩=some u9∧w.cell? ⟨p.block,p.off+10,none⟩=some u10∧w.cell? ⟨p.block,p.off+11,none⟩=some u11)∧RdV w u0 u1 u2 (toR x.l)∧RdV w u3 u4 u5 (toR x.r)∧RdV w u6 u7 u8 (toR x.lo)∧RdV w u9 u10 u11 (toR x.hi)
theorem PsAt.bl {w W:World}{p:Addr}{l:List PtD}(h:PsAt w p l) (hp:p.block < w.heap.size) (hb:Bl w W):PsAt W p l:=by
  obtain⟨g,n,c,h0,h1⟩:=h
  exact⟨g,n,c,by rw[hb.cellOf hp];exact h0,RdPS.bl h1 hb⟩
theorem BxAt.bl {w W:World}{p:Addr}{x:BxQ}(h:BxAt w p x) (hp:p.block < w.heap.size) (hb:Bl w W):BxAt W p x:=by
  obtain⟨u0,u1,u2,u3,u4,u5,u6,u7,u8,u9,u10,u11,⟨h0,h1,h2,h3,h4,h5,h6,h7,h8,h9,h10,h11⟩,r0,r1,r2,r3⟩:=h
  exact⟨u0,u1,u2,u3,u4,u5,u6,u7,u8,u9,u10,u11,⟨by rw[hb.cellOf hp];exact h0,by rw[hb.cellOf (p:=⟨p.block,p.off+1,none⟩) hp];exact h1,by rw[hb.cellOf (p:=⟨p.block,p.off+2,none⟩) hp];exact h2,by rw[hb.cellOf (p:=⟨p.block,p.off+3,none⟩) hp];exact h3,by rw[hb.cellOf (p:=⟨p.block,p.off+4,none⟩) hp];exact h4,by rw[hb.cellOf (p:=⟨p.block,p.off+5,none⟩) hp];exact h5,by rw[hb.cellOf (p:=⟨p.block,p.off+6,none⟩) hp];exact h6,by rw[hb.cellOf (p:=⟨p.block,p.off+7,none⟩) hp];exact h7,by rw[hb.cellOf (p:=⟨p.block,p.off+8,none⟩) hp];exact h8,by rw[hb.cellOf (p:=⟨p.block,p.off+9,none⟩) hp];exact h9,by rw[hb.cellOf (p:=⟨p.block,p.off+10,none⟩) hp];exact h10,by rw[hb.cellOf (p:=⟨p.block,p.off+11,none⟩) hp];exact h11⟩,r0.bl hb,r1.bl hb,r2.bl hb,r3.bl hb⟩
theorem ps_lit {w:World}{g n c:Nat}{L:List (List PtD)}(h:RdS 1 PsAt w (some ⟨g,0,none⟩) n c L) {k:Nat}(hk:k < n):PsAt w ⟨g,k,none⟩ (pix L k)∧g < w.heap.size:=by
  obtain⟨_,e,hl,hc⟩:=h.cells k hk
  cases e
  rw[Addr.add_lit,Nat.zero_add,Nat.mul_one] at hc
  exact⟨hc,hl⟩
theorem bx_lit {w:World}{g n c:Nat}{L:List BxQ}(h:RdS 12 BxAt w (some ⟨g,0,none⟩) n c L) {k:Nat}(hk:k < n):BxAt w ⟨g,k * 12,none⟩ (pix L k)∧g < w.heap.size:=by
  obtain⟨_,e,hl,hc⟩:=h.cells k hk
  cases e
  rw[Addr.add_lit,Nat.zero_add] at hc
  exact⟨hc,hl⟩
/-- v's own block is not in the list. -/
def Nin (v:Value) (bs:List Nat):Prop:=∀ g,v.ownBlock=Option.some g→g ∉ bs
theorem appN_nin (v:Value):AppN (Nin v) :=
  ⟨fun g _ hm=> by simp at hm,fun a b h k _ g e hm=> by
    rcases List.mem_append.1 hm with hm | hm
    · exact h g e hm
    · exact k g e hm⟩
abbrev RowA (N:List Nat→Prop) (lo hi:Nat) (w:World) (v:Value) (L:List (List PtD)):Prop:=RowG N 33 1 PsE lo hi w v L
abbrev RowB (N:List Nat→Prop) (lo hi:Nat) (w:World) (v:Value) (L:List BxQ):Prop:=RowG N 72 12 BxE lo hi w v L
section
variable {N:List Nat→Prop}{lo hi:Nat}{w W:World}{v:Value}
theorem RowA.rd {L:List (List PtD)}(h:RowA N lo hi w v L) (hl:L.length≤1048576):∃ A c,v=.slice A L.length c∧RdS 1 PsAt w A L.length c L∧(L.length=0∨∃ g,A=some ⟨g,0,none⟩):=by
  obtain⟨cells,fs,r1,r2,r3,r4,r5,r6,r7⟩:=h
  rcases r1.2 with ⟨rfl,h0⟩ |⟨g,cap,cur,rfl,hg,hh,hn,hcap,hcs,ht⟩
  · have:L=[]:=List.length_eq_zero_iff.1 h0
    subst this
    exact⟨none,0,rfl,RdS.nil _ _ _,.inl rfl⟩
  · refine⟨_,cap,rfl,⟨rfl,hn,by omega,fun k hk =>⟨_,rfl,heap_lt hh,?_⟩⟩,.inr ⟨_,rfl⟩⟩
    obtain⟨A,n,c,h0,h1⟩:=r4 k hk
    refine⟨A,n,c,?_,h1 w (Nat.le_refl _) fun _ _=> rfl⟩
    rw[Nat.mul_one,Addr.add_lit,Nat.zero_add]
    rw[Nat.mul_one] at h0
    refine(show World.cell? w ⟨g,k,none⟩=cur[k]? from Blk.cell (T:=33) hh k).trans ?_
    rw[← h0,← ht]
    simp[hk]
theorem RowB.rd {L:List BxQ}(h:RowB N lo hi w v L) (hl:L.length≤1048576):∃ A c,v=.slice A L.length c∧RdS 12 BxAt w A L.length c L∧(L.length=0∨∃ g,A=some ⟨g,0,none⟩):=by
  obtain⟨cells,fs,r1,r2,r3,r4,r5,r6,r7⟩:=h
  rcases r1.2 with ⟨rfl,h0⟩ |⟨g,cap,cur,rfl,hg,hh,hn,hcap,hcs,ht⟩
  · have:L=[]:=List.length_eq_zero_iff.1 h0
    subst this
    exact⟨none,0,rfl,RdS.nil _ _ _,.inl rfl⟩
  · refine⟨_,cap,rfl,⟨rfl,hn,by omega,fun k hk =>⟨_,rfl,heap_lt hh,?_⟩⟩,.inr ⟨_,rfl⟩⟩
    obtain⟨u0,u1,u2,u3,u4,u5,u6,u7,u8,u9,u10,u11,⟨h0,h1,h2,h3,h4,h5,h6,h7,h8,h9,h10,h11⟩,hr⟩:=r4 k hk
    have hc:∀ j,j < 12→World.cell? w ⟨g,k * 12+j,none⟩=cells.toArray[k * 12+j]?:=fun j hj=> by
      refine(show World.cell? w ⟨g,k * 12+j,none⟩=cur[k * 12+j]? from Blk.cell (T:=72) hh _).trans ?_
      rw[← ht]
      have:k * 12+j < L.length * 12:=by omega
      simp[this]
    rw[Addr.add_lit,Nat.zero_add]
    exact⟨u0,u1,u2,u3,u4,u5,u6,u7,u8,u9,u10,u11,⟨(hc 0 (by omega)).trans h0,(hc 1 (by omega)).trans h1,(hc 2 (by omega)).trans h2,(hc 3 (by omega)).trans h3,(hc 4 (by omega)).trans h4,(hc 5 (by omega)).trans h5,(hc 6 (by omega)).trans h6,(hc 7 (by omega)).trans h7,(hc 8 (by omega)).trans h8,(hc 9 (by omega)).trans h9,(hc 10 (by omega)).trans h10,(hc 11 (by omega)).trans h11⟩,hr w (Nat.le_refl _) fun _ _=> rfl⟩
end
/-- The corner lists and the rectangles, while they grow. -/
def AB (lo hi:Nat) (w:World) (va vb:Value) (L:List (List PtD)) (B:List BxQ):Prop :=
  RowA (Nin vb) lo hi w va L∧RowB (Nin va) lo hi w vb B∧∀ g,va.ownBlock=Option.some g→vb.ownBlock≠Option.some g
section
variable {lo hi hi':Nat}{w W:World}{va vb:Value}{L:List (List PtD)}{B:List BxQ}
theorem AB.start (w:World) (h:lo≤w.heap.size):AB lo (w.heap.size+1+1) ((w.alloc (.cells #[] 33)).alloc (.cells #[] 72)) (.slice (some ⟨w.heap.size,0,none⟩) 0 0) (.slice (some ⟨w.heap.size+1,0,none⟩) 0 0) [] []:=by
  have e:(w.alloc (.cells #[] 33)).heap.size=w.heap.size+1:=by simp
  refine⟨?_,?_,?_⟩
  · exact(RowG.bl psE_keep (RowG.empty (appN_nin _) w h) ((Bl.refl _).alloc _)).up (by omega) (by simp)
  · have h1:=RowG.empty (α:=BxQ) (N:=Nin (.slice (some ⟨w.heap.size,0,none⟩) 0 0)) (TP:=72) (size:=12) (lo:=lo) (El:=BxE) (appN_nin _) (w.alloc (.cells #[] 33)) (by rw[e];omega)
    rw[e] at h1
    exact h1
  · intro g e e2
    have a:w.heap.size=g:=by injection e
    have b:w.heap.size+1=g:=by injection e2
    omega
theorem AB.bl (h:AB lo hi w va vb L B) (hb:Bl w W):AB lo hi W va vb L B:=⟨RowG.bl psE_keep h.1 hb,RowG.bl bxE_keep h.2.1 hb,h.2.2⟩
theorem AB.hiLe (h:AB lo hi w va vb L B):hi≤w.heap.size:=RowG.hiLe h.1
end
theorem info_ps:(Tryz.prog.info? 33).map (fun i =>(i.zero,i.size,i.bytes))=some (some (.slice none 0 0),1,24):=by kernel_rfl
theorem mem_from {b0 z b:Nat}:b ∈ List.range' b0 (z - b0)→b0≤b∧b < z:=by
  intro h
  have:=List.mem_range'_1.1 h
  omega
theorem from_mem {b0 z b:Nat}(h1:b0≤b) (h2:b < z):b ∈ List.range' b0 (z - b0):=List.mem_range'_1.2 ⟨h1,by omega⟩
theorem wpList_append_abA {W:World}{va vb:Value}{L:List (List PtD)}{B:List BxQ}{g n c:Nat}{l:List PtD}{lo hi b0:Nat}{ops:Array Oper}{rest:List Oper}{o:Oper}{a:Act}{Q:Exit→Act→World→Prop}(hgd:o.guard=none) (s1 x1:Operand)
    (ho:o.op=.call { callee:=.builtin .append,args:=#[s1,x1],argTypes:=#[66,66] }) (hs:a.eval s1=va) (hab:AB lo hi W va vb L B)
    (hf:FrPS b0 W (some ⟨g,0,none⟩) n c l) (hb0:hi≤b0) (hlh:lo≤hi) (c1:Nat) (hx:a.eval x1=.slice (some ⟨W.heap.size,0,none⟩) 1 c1) (hlen:L.length≤1048576) (w0:World) (hb:Bl w0 W) (h0:w0.heap.size≤lo)
    (h:∀ va' w',RowA (Nin vb) lo w'.heap.size w' va' (L ++ [l])→RowB (Nin va') lo hi w' vb B→(∀ g,va'.ownBlock=Option.some g→vb.ownBlock≠Option.some g)→Bl w0 w'→W.heap.size≤w'.heap.size→(∀ b,hi≤b→b < W.heap.size→w'.heap[b]?=W.heap[b]?∧va'.ownBlock≠Option.some b)→wpList Tryz.prog ops Q rest (a.put o.dst va') w'):wpList Tryz.prog ops Q (o :: rest) a (W.alloc (.cells #[.slice (some ⟨g,0,none⟩) n c] 33)):=by
  obtain⟨hA,hB,hd⟩:=hab
  refine wpList_append_rowS (appN_nin vb) psE_keep info_ps (by rfl) (by omega) (by omega) Tryz.underlying66 hgd s1 x1 ho va hs hA (p:=l) (bs:=List.range' b0 (W.heap.size - b0)) ⟨g,n,c,rfl,fun X hX hk=> hf.2 X hX fun b h1 h2=> hk b (from_mem h1 h2)⟩ rfl (by simp[Value.oneCell']) (fun b hm =>⟨Nat.le_trans hb0 (mem_from hm).1,(mem_from hm).2⟩) (fun g e hm=> by have:=(RowG.lo hB e).2;have:=(mem_from hm).1;omega) hlh c1 hx hlen w0 hb h0 ?_
  intro v' w' g1 g2 _ g4
  refine h v' w' g1 ?_ (fun g e e2 =>(g4.2 g (Nat.lt_of_lt_of_le (RowG.lo hB e2).2 (RowG.hiLe hB)) fun e3=> hd g e3 e2).2 e) g2 g4.1 fun b h1 h2=> g4.2 b h2 fun e=> by have:=(RowG.lo hA e).2;omega
  have hz:=RowG.hiLe hB
  exact RowG.keepX bxE_keep hB g4.1 (fun g e =>(g4.2 g (Nat.lt_of_lt_of_le (RowG.lo hB e).2 hz) fun e2=> hd g e2 e).1) fun bs hn hbs =>⟨fun b hm =>(g4.2 b (Nat.lt_of_lt_of_le (hbs b hm).2 hz) fun e=> hn b e hm).1,fun g e hm =>(g4.2 g (Nat.lt_of_lt_of_le (hbs g hm).2 hz) fun e2=> hn g e2 hm).2 e⟩

theorem RdV.ones {w:World}{v0 v1 v2:Value}{r:RatD}(h:RdV w v0 v1 v2 r):v0.oneCell'=true∧v1.oneCell'=true∧v2.oneCell'=true:=by
  obtain⟨s,A,n,c,B,m,d,rfl,rfl,rfl,h⟩:=h
  exact⟨rfl,rfl,rfl⟩
theorem info_bx:(Tryz.prog.info? 72).map (fun i =>(i.zero,i.size,i.bytes))=some (some (.agg #[.bool false,.slice none 0 0,.slice none 0 0,.bool false,.slice none 0 0,.slice none 0 0,.bool false,.slice none 0 0,.slice none 0 0,.bool false,.slice none 0 0,.slice none 0 0]),12,224):=by kernel_rfl
theorem wpList_append_abB {W:World}{va vb:Value}{L:List (List PtD)}{B:List BxQ}{u0 u1 u2 u3 u4 u5 u6 u7 u8 u9 u10 u11:Value}{x:BxQ}{lo hi hiA b0 z:Nat}{ops:Array Oper}{rest:List Oper}{o:Oper}{a:Act}{Q:Exit→Act→World→Prop}(hgd:o.guard=none) (s1 x1:Operand)
    (ho:o.op=.call { callee:=.builtin .append,args:=#[s1,x1],argTypes:=#[67,67] }) (hs:a.eval s1=vb) (hA:RowA (Nin vb) lo hiA W va L) (hB:RowB (Nin va) lo hi W vb B) (hd:∀ g,va.ownBlock=Option.some g→vb.ownBlock≠Option.some g)
    (hf:∀ X:World,W.heap.size≤X.heap.size→(∀ b,b0≤b→b < z→X.heap[b]?=W.heap[b]?)→RdV X u0 u1 u2 (toR x.l)∧RdV X u3 u4 u5 (toR x.r)∧RdV X u6 u7 u8 (toR x.lo)∧RdV X u9 u10 u11 (toR x.hi)) (hz:z≤W.heap.size) (hva:∀ b,b0≤b→b < z→va.ownBlock≠Option.some b) (hb0:hi≤b0) (hlh:lo≤hi) (c1:Nat) (hx:a.eval x1=.slice (some ⟨W.heap.size,0,none⟩) 1 c1) (hlen:B.length≤1048576) (w0:World) (hb:Bl w0 W) (h0:w0.heap.size≤lo)
    (h:∀ vb' w',AB lo w'.heap.size w' va vb' L (B ++ [x])→Bl w0 w'→W.heap.size≤w'.heap.size→wpList Tryz.prog ops Q rest (a.put o.dst vb') w'):wpList Tryz.prog ops Q (o :: rest) a (W.alloc (.cells #[u0,u1,u2,u3,u4,u5,u6,u7,u8,u9,u10,u11] 72)):=by
  obtain⟨o0,o1,o2,o3⟩:=hf W (Nat.le_refl _) fun _ _ _=> rfl
  obtain⟨p0,p1,p2⟩:=o0.ones
  obtain⟨p3,p4,p5⟩:=o1.ones
  obtain⟨p6,p7,p8⟩:=o2.ones
  obtain⟨p9,p10,p11⟩:=o3.ones
  have hzB:=RowG.hiLe hB
  have hzA:=RowG.hiLe hA
  refine wpList_append_rowS (appN_nin va) bxE_keep info_bx (by rfl) (by omega) (by omega) Tryz.underlying67 hgd s1 x1 ho vb hs hB (p:=x) (bs:=List.range' b0 (z - b0)) ⟨u0,u1,u2,u3,u4,u5,u6,u7,u8,u9,u10,u11,⟨rfl,rfl,rfl,rfl,rfl,rfl,rfl,rfl,rfl,rfl,rfl,rfl⟩,fun X hX hk=> hf X hX fun b h1 h2=> hk b (from_mem h1 h2)⟩ rfl (by simp[p0,p1,p2,p3,p4,p5,p6,p7,p8,p9,p10,p11]) (fun b hm =>⟨Nat.le_trans hb0 (mem_from hm).1,Nat.lt_of_lt_of_le (mem_from hm).2 hz⟩) (fun g e hm=> hva g (mem_from hm).1 (mem_from hm).2 e) hlh c1 hx hlen w0 hb h0 ?_
  intro v' w' g1 g2 _ g4
  refine h v' w' ⟨(RowG.keepX psE_keep hA g4.1 (fun g e =>(g4.2 g (Nat.lt_of_lt_of_le (RowG.lo hA e).2 hzA) fun e2=> hd g e e2).1) fun bs hn hbs =>⟨fun b hm =>(g4.2 b (Nat.lt_of_lt_of_le (hbs b hm).2 hzA) fun e=> hn b e hm).1,fun g e hm =>(g4.2 g (Nat.lt_of_lt_of_le (hbs g hm).2 hzA) fun e2=> hn g e2 hm).2 e⟩).up (Nat.le_trans hzA g4.1) (Nat.le_refl _),g1,fun g e =>(g4.2 g (Nat.lt_of_lt_of_le (RowG.lo hA e).2 hzA) fun e2=> hd g e e2).2⟩ g2 g4.1
end

section
open Go.RowKit

/-- A fraction that reads wherever the memory made from b0 on is kept. -/
def FrF (b0:Nat) (w:World) (s:Bool) (A:Option Addr) (n c:Nat) (B:Option Addr) (m d:Nat) (r:RatD):Prop :=
  ∀ X:World,w.heap.size≤X.heap.size→(∀ b,b0≤b→b < w.heap.size→X.heap[b]?=w.heap[b]?)→RdR X s A n c B m d r
theorem cell_same {w X:World}{g:Nat}(h:X.heap[g]?=w.heap[g]?) {p:Addr}(hp:p.block=g):X.cell? p=w.cell? p:=by
  subst hp
  unfold World.cell?
  rw[h]
theorem FrPS.phi {b0:Nat}{w:World}{A:Option Addr}{n c:Nat}{l:List PtD}(h:FrPS b0 w A n c l):RdS 6 (PtW (FrF b0 w)) w A n c l:=by
  have hr:=h.rd
  refine⟨hr.len,hr.cap,hr.small,fun k hk=> ?_⟩
  obtain⟨ad,e,hlt,s,A1,n1,c1,B1,m1,d1,t,C1,i1,e1,D1,j1,f1,⟨x0,x1,x2,x3,x4,x5⟩,hX,hY⟩:=hr.cells k hk
  obtain⟨g,e2,hg,hgs⟩:∃ g,A=some ⟨g,0,none⟩∧b0≤g∧g < w.heap.size:=by
    rcases h.1 with h | h
    · omega
    · exact h
  subst e
  injection e2 with e2
  subst e2
  have key:∀ X:World,w.heap.size≤X.heap.size→(∀ b,b0≤b→b < w.heap.size→X.heap[b]?=w.heap[b]?)→RdR X s A1 n1 c1 B1 m1 d1 (pix l k).x∧RdR X t C1 i1 e1 D1 j1 f1 (pix l k).y:=by
    intro X hs hb
    obtain⟨ad',e',_,s',A',n',c',B',m',d',t',C',i',e'',D',j',f',⟨y0,y1,y2,y3,y4,y5⟩,hX',hY'⟩:=(h.2 X hs hb).cells k hk
    injection e' with e'
    subst e'
    have hbl:∀ q:Addr,q.block=g→X.cell? q=w.cell? q:=fun q hq=> cell_same (hb g hg hgs) hq
    rw[hbl _ (by rw[block_add]),x0] at y0
    rw[hbl _ (by rw[block_add]),x1] at y1
    rw[hbl _ (by rw[block_add]),x2] at y2
    rw[hbl _ (by rw[block_add]),x3] at y3
    rw[hbl _ (by rw[block_add]),x4] at y4
    rw[hbl _ (by rw[block_add]),x5] at y5
    cases y0
    cases y1
    cases y2
    cases y3
    cases y4
    cases y5
    exact⟨hX',hY'⟩
  exact⟨_,rfl,hlt,s,A1,n1,c1,B1,m1,d1,t,C1,i1,e1,D1,j1,f1,⟨x0,x1,x2,x3,x4,x5⟩,⟨hX,fun X hs hb =>(key X hs hb).1⟩,⟨hY,fun X hs hb =>(key X hs hb).2⟩⟩
end

section
open Go.RowKit

set_option maxRecDepth 100000 in
set_option maxHeartbeats 16000000 in
theorem turn_nil (w:World) {gp n cp:Nat}{l:List PtD}(hp:RdPS w (some ⟨gp,0,none⟩) n cp l) (a b c:Nat) (ha:a < n) (hb:b < n) (hc:c < n) :
    Calls Tryz.prog 104 #[.agg #[.slice (some ⟨gp,0,none⟩) n cp,.slice none 0 0,.slice none 0 0],.int .i64 (a:Int),.int .i64 (b:Int),.int .i64 (c:Int)] w fun e w'=> e=.returned (.int .i64 (sgnR (dblA (pix l a) (pix l b) (pix l c))))∧Bl w w':=by
  have hns:=hp.small
  go_enter Tryz.func104,Tryz.ntmps104
  go_upto_region 1 with (fail)
  refine wp_gen (fun W=> Bl w W∧∃ gb,Blk W gb 90 #[.slice (some ⟨gp,0,none⟩) n cp,.slice none 0 0,.slice none 0 0]∧gb=w.heap.size) ⟨slc,_,by exact bts,rfl⟩ ?_
  rintro W ⟨hbW,gb,hBx,hgb⟩
  rw[← hgb]
  clear hgb
  have hp:=RdPS.bl hp hbW
  have hgp:gp < W.heap.size:=by
    obtain⟨_,e,h,_⟩:=hp.cells a ha
    cases e
    exact h
  obtain⟨z0,z1,z2⟩:=bx3 hBx
  go_upto_region 3 with (fail)
  clear z0 z1 z2
  obtain⟨s7,A7,n7,c7,B7,m7,d7,t7,C7,i7,e7,D7,j7,f7,⟨x0,x1,x2,x3,x4,x5⟩,hX7,hY7⟩:=pts_lit hp ha
  obtain⟨s8,A8,n8,c8,B8,m8,d8,t8,C8,i8,e8,D8,j8,f8,⟨y0,y1,y2,y3,y4,y5⟩,hX8,hY8⟩:=pts_lit hp hb
  obtain⟨s9,A9,n9,c9,B9,m9,d9,t9,C9,i9,e9,D9,j9,f9,⟨z0,z1,z2,z3,z4,z5⟩,hX9,hY9⟩:=pts_lit hp hc
  go_region_held3 (fun w' =>(w'.cell? ⟨gb,0,none⟩=some (.slice (some ⟨gp,0,none⟩) n cp)∧w'.cell? ⟨gb,1,none⟩=some (.slice none 0 0)∧w'.cell? ⟨gb,2,none⟩=some (.slice none 0 0))∧(w'.cell? ⟨gp,a * 6,none⟩=some (.bool s7)∧w'.cell? ⟨gp,a * 6+1,none⟩=some (.slice A7 n7 c7)∧w'.cell? ⟨gp,a * 6+2,none⟩=some (.slice B7 m7 d7)∧w'.cell? ⟨gp,a * 6+3,none⟩=some (.bool t7)∧w'.cell? ⟨gp,a * 6+4,none⟩=some (.slice C7 i7 e7)∧w'.cell? ⟨gp,a * 6+5,none⟩=some (.slice D7 j7 f7))∧(w'.cell? ⟨gp,b * 6,none⟩=some (.bool s8)∧w'.cell? ⟨gp,b * 6+1,none⟩=some (.slice A8 n8 c8)∧w'.cell? ⟨gp,b * 6+2,none⟩=some (.slice B8 m8 d8)∧w'.cell? ⟨gp,b * 6+3,none⟩=some (.bool t8)∧w'.cell? ⟨gp,b * 6+4,none⟩=some (.slice C8 i8 e8)∧w'.cell? ⟨gp,b * 6+5,none⟩=some (.slice D8 j8 f8))∧(w'.cell? ⟨gp,c * 6,none⟩=some (.bool s9)∧w'.cell? ⟨gp,c * 6+1,none⟩=some (.slice A9 n9 c9)∧w'.cell? ⟨gp,c * 6+2,none⟩=some (.slice B9 m9 d9)∧w'.cell? ⟨gp,c * 6+3,none⟩=some (.bool t9)∧w'.cell? ⟨gp,c * 6+4,none⟩=some (.slice C9 i9 e9)∧w'.cell? ⟨gp,c * 6+5,none⟩=some (.slice D9 j9 f9))) (first | exact⟨bx3 (T:=90) (hBx.bl slc),⟨(Bl.cellOf (w:=W) (p:=⟨gp,a * 6,none⟩) slc hgp).trans x0,(Bl.cellOf (w:=W) (p:=⟨gp,a * 6+1,none⟩) slc hgp).trans x1,(Bl.cellOf (w:=W) (p:=⟨gp,a * 6+2,none⟩) slc hgp).trans x2,(Bl.cellOf (w:=W) (p:=⟨gp,a * 6+3,none⟩) slc hgp).trans x3,(Bl.cellOf (w:=W) (p:=⟨gp,a * 6+4,none⟩) slc hgp).trans x4,(Bl.cellOf (w:=W) (p:=⟨gp,a * 6+5,none⟩) slc hgp).trans x5⟩,⟨(Bl.cellOf (w:=W) (p:=⟨gp,b * 6,none⟩) slc hgp).trans y0,(Bl.cellOf (w:=W) (p:=⟨gp,b * 6+1,none⟩) slc hgp).trans y1,(Bl.cellOf (w:=W) (p:=⟨gp,b * 6+2,none⟩) slc hgp).trans y2,(Bl.cellOf (w:=W) (p:=⟨gp,b * 6+3,none⟩) slc hgp).trans y3,(Bl.cellOf (w:=W) (p:=⟨gp,b * 6+4,none⟩) slc hgp).trans y4,(Bl.cellOf (w:=W) (p:=⟨gp,b * 6+5,none⟩) slc hgp).trans y5⟩,⟨(Bl.cellOf (w:=W) (p:=⟨gp,c * 6,none⟩) slc hgp).trans z0,(Bl.cellOf (w:=W) (p:=⟨gp,c * 6+1,none⟩) slc hgp).trans z1,(Bl.cellOf (w:=W) (p:=⟨gp,c * 6+2,none⟩) slc hgp).trans z2,(Bl.cellOf (w:=W) (p:=⟨gp,c * 6+3,none⟩) slc hgp).trans z3,(Bl.cellOf (w:=W) (p:=⟨gp,c * 6+4,none⟩) slc hgp).trans z4,(Bl.cellOf (w:=W) (p:=⟨gp,c * 6+5,none⟩) slc hgp).trans z5⟩⟩) (first |(go_at_call 69;with_reducible refine(DoubleArea_any _ (hX7.bl slc) (hY7.bl slc) (hX8.bl slc) (hY8.bl slc) (hX9.bl slc) (hY9.bl slc)).mono ?_;rintro e v0 ⟨sd,Ad,nd,cd,Bd,md,dd,rfl,hRd,hv0⟩) |(go_at_call 108;with_reducible refine(RatSign_any _ hRd.rd).mono ?_;rintro e v1 ⟨rfl,hv1⟩))
  all_goals (go_wp2_with fail)
  all_goals go_ret
  all_goals exact⟨rfl,hbW.next slc⟩
end

end Go.Proofs.YtjaapemopbbfaaaGreat
