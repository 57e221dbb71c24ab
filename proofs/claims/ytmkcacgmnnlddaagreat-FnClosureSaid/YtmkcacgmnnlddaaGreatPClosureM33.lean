import Derived.Test.YtmkcacgmnnlddaaGreatRows
import Derived.Test.YtmkcacgmnnlddaaGreatPClosureM32
import Derived.Test.YtmkcacgmnnlddaaGreatPClosureM31
import Derived.Test.YtmkcacgmnnlddaaGreatPClosureM21
namespace Go.Proofs.YtmkcacgmnnlddaaGreat
set_option maxRecDepth 100000
set_option maxHeartbeats 32000000
section
open Go.RowKit
theorem bisected_any {g5 g8:Nat}{L:List EdD}{md:List Int}(hs:SrtE L):∀(d:Nat),d≤10→∀(w:World) (t:TriD),MidAt w g5 g8 L md→(-1000≤t.level∧t.level≤1000-d) →
  Calls Tryz.prog 76 #[.agg #[.int .i64 t.a,.int .i64 t.b,.int .i64 t.c,.int .i64 t.region,.int .i64 t.level],.func (.func 75) #[] #[.pointer (some ⟨g5,0,none⟩),.pointer (some ⟨g8,0,none⟩)],.int .i64 (d:Int)] w (TrisOw w (bsT (midF L md) d t)):=by
 intro d
 induction d with
 | zero=>
  intro hd w t hM hl
  have hv:=Lib.hid (show bsT (midF L md) 0 t=[t]from rfl)
  have e0:((0:Nat):Int)=0:=rfl
  rw[e0]
  clear e0
  go_enter Tryz.func76,Tryz.ntmps76
  go_wp2_with fail
  refine calls_gen (fun W=>Bl w W∧Blk W w.heap.size 58 #[.int .i64 t.a,.int .i64 t.b,.int .i64 t.c,.int .i64 t.region,.int .i64 t.level]) ⟨slc,bts⟩ ?_
  rintro W ⟨hbw,h3⟩
  refine(mid_any _ (hM.bl hbw) hs t.b t.c).mono ?_
  rintro e w1 ⟨rfl,hb1⟩
  have h3:=h3.bl hb1
  have hbw:=hbw.next hb1
  obtain⟨x,hx⟩:∃x,midF L md t.b t.c=x:=⟨_,rfl⟩
  rw[hx]
  clear hx hb1
  by_cases hx0:x<0
  ·skip
   clear hM
   obtain⟨y0,y1,y2,y3,y4⟩:=bx5 h3
   go_wp2_with fail
   go_ret
   rw[hv.out]
   exact⟨w1.heap.size,1,rfl,OwT.one w1 t hbw.size,slc⟩
  ·skip
   clear hM
   obtain⟨y0,y1,y2,y3,y4⟩:=bx5 h3
   go_wp2_with fail
   go_ret
   rw[hv.out]
   exact⟨w1.heap.size,1,rfl,OwT.one w1 t hbw.size,slc⟩
 | succ d ih=>
  intro hd w t hM hl
  have ih:=ih (by omega)
  obtain⟨mid,hmid⟩:∃mid,midF L md=mid:=⟨_,rfl⟩
  rw[hmid]at ih ⊢
  replace hmid:=Lib.hid hmid
  have hd0:((d+1:Nat):Int)≠0:=by omega
  have hd1:((d+1:Nat):Int)-1=(d:Int):=by omega
  obtain⟨z,hz⟩:∃z:Int,((d+1:Nat):Int)=z:=⟨_,rfl⟩
  rw[hz]at hd0 hd1 hl ⊢
  have hz2:z≤100:=by omega
  have hz3:0<z:=by omega
  clear hz
  go_enter Tryz.func76,Tryz.ntmps76
  go_wp2_with fail
  refine calls_gen (fun W=>Bl w W∧Blk W w.heap.size 58 #[.int .i64 t.a,.int .i64 t.b,.int .i64 t.c,.int .i64 t.region,.int .i64 t.level]) ⟨slc,bts⟩ ?_
  rintro W ⟨hbw,h3⟩
  refine(mid_any _ (hM.bl hbw) hs t.b t.c).mono ?_
  rintro e w1 ⟨rfl,hb1⟩
  have h3:=h3.bl hb1
  have hM:=hM.bl (hbw.next hb1)
  have hbw:=hbw.next hb1
  obtain⟨x,hx⟩:∃x,midF L md t.b t.c=x:=⟨_,rfl⟩
  rw[hx]
  rw[hmid.out]at hx
  clear hb1
  by_cases hx0:x<0
  ·have hv:=Lib.hid (bsT_no (d:=d+1) (show mid t.b t.c<0 by rw[hx];exact hx0))
   clear hx
   clear hM
   obtain⟨y0,y1,y2,y3,y4⟩:=bx5 h3
   go_wp2_with fail
   go_ret
   rw[hv.out]
   exact⟨w1.heap.size,1,rfl,OwT.one w1 t hbw.size,slc⟩
  ·have hv:=Lib.hid (bsT_yes (d:=d) hx hx0)
   clear hx
   have hdx:decide (x<0)=false:=by simp;omega
   have hzb:(z == 0)=false:=by simp;omega
   obtain⟨y0,y1,y2,y3,y4⟩:=bx5 h3
   go_wp2_with fail
   clear hdx hzb
   refine(halves_any _ t x (by omega) (by omega)).mono ?_
   rintro e w3 ⟨rfl,hb3⟩
   have hM:=hM.bl hb3
   have hbw:=hbw.next hb3
   clear y0 y1 y2 y3 y4 h3 hb3
   obtain⟨tA,htA⟩:∃tA,hvA t x=tA:=⟨_,rfl⟩
   obtain⟨tB,htB⟩:∃tB,hvB t x=tB:=⟨_,rfl⟩
   have hlA : -1000≤tA.level∧tA.level≤1000-(d:Int):=by rw[←htA];exact(show -1000≤t.level+1∧t.level+1≤1000-(d:Int)by omega)
   have hlB : -1000≤tB.level∧tB.level≤1000-(d:Int):=by rw[←htB];exact(show -1000≤t.level+1∧t.level+1≤1000-(d:Int)by omega)
   rw[htA,htB]at hv ⊢
   clear htA htB
   unfold trV
   go_upto_region 5 with (fail)
   refine wp_gen (fun W2=>Bl w3 W2∧∃g8 g9,Blk W2 g8 58 #[.int .i64 tA.a,.int .i64 tA.b,.int .i64 tA.c,.int .i64 tA.region,.int .i64 tA.level]∧Blk W2 g9 58 #[.int .i64 tB.a,.int .i64 tB.b,.int .i64 tB.c,.int .i64 tB.region,.int .i64 tB.level]∧g8<W2.heap.size∧g9<W2.heap.size∧g8=w3.heap.size∧g9=w3.heap.size+1) ⟨by exact slc,_,_,by exact bts,by exact bts,by simp;omega,by simp,rfl,rfl⟩ ?_
   rintro W2 ⟨hb2,g8',g9,q8,q9,hl8,hl9,hg8,hg9⟩
   rw[←hg9,←hg8]
   have hM:=hM.bl hb2
   have hbw:=hbw.next hb2
   have hsA:=bsT_len mid d tA
   have hsB:=bsT_len mid d tB
   have hp:2 ^ d≤1024:=Nat.pow_le_pow_right (by omega) (show d≤10 by omega)
   have hwd:IntKind.i64.wrap (d:Int)=(d:Int):=IntWalk.i64_in _ (by omega)
   clear hg8 hg9 hb2
   have hHeld:(fun w'=>(w'.cell? ⟨g8',0,none⟩=some (.int .i64 tA.a)∧w'.cell? ⟨g8',1,none⟩=some (.int .i64 tA.b)∧w'.cell? ⟨g8',2,none⟩=some (.int .i64 tA.c)∧w'.cell? ⟨g8',3,none⟩=some (.int .i64 tA.region)∧w'.cell? ⟨g8',4,none⟩=some (.int .i64 tA.level))∧(w'.cell? ⟨g9,0,none⟩=some (.int .i64 tB.a)∧w'.cell? ⟨g9,1,none⟩=some (.int .i64 tB.b)∧w'.cell? ⟨g9,2,none⟩=some (.int .i64 tB.c)∧w'.cell? ⟨g9,3,none⟩=some (.int .i64 tB.region)∧w'.cell? ⟨g9,4,none⟩=some (.int .i64 tB.level))) (W2.drew):=⟨bx5 (T:=58) (q8.bl slc),bx5 (T:=58) (q9.bl slc)⟩
   refine wp_region_T 11 12 (fun w'=>(w'.cell? ⟨g8',0,none⟩=some (.int .i64 tA.a)∧w'.cell? ⟨g8',1,none⟩=some (.int .i64 tA.b)∧w'.cell? ⟨g8',2,none⟩=some (.int .i64 tA.c)∧w'.cell? ⟨g8',3,none⟩=some (.int .i64 tA.region)∧w'.cell? ⟨g8',4,none⟩=some (.int .i64 tA.level))∧(w'.cell? ⟨g9,0,none⟩=some (.int .i64 tB.a)∧w'.cell? ⟨g9,1,none⟩=some (.int .i64 tB.b)∧w'.cell? ⟨g9,2,none⟩=some (.int .i64 tB.c)∧w'.cell? ⟨g9,3,none⟩=some (.int .i64 tB.region)∧w'.cell? ⟨g9,4,none⟩=some (.int .i64 tB.level))) rfl (by kernel_rfl) hHeld ?_
   refine wpAnyT_take (i:=0) (oi:=_) (v:=?_) (fuel:=11) rfl (by kernel_rfl) (by kernel_rfl) (by kernel_rfl) (by kernel_rfl) (fun _ _ _ h=>h) (by rfl) ?_ hHeld ?_
   rotate_left 1
   ·(intro w' hSw;(try dsimp only at hSw);go_simp <;> with_reducible rfl)
   refine wpAnyT_take (i:=1) (oi:=_) (v:=?_) (fuel:=10) rfl (by kernel_rfl) (by kernel_rfl) (by kernel_rfl) (by kernel_rfl) (fun _ _ _ h=>h) (by rfl) ?_ hHeld ?_
   rotate_left 1
   ·(intro w' hSw;(try dsimp only at hSw);go_simp <;> with_reducible rfl)
   refine wpAnyT_take (i:=2) (oi:=_) (v:=?_) (fuel:=9) rfl (by kernel_rfl) (by kernel_rfl) (by kernel_rfl) (by kernel_rfl) (fun _ _ _ h=>h) (by rfl) ?_ hHeld ?_
   rotate_left 1
   ·(intro w' hSw;(try dsimp only at hSw);go_simp <;> with_reducible rfl)
   refine wpAnyT_take (i:=3) (oi:=_) (v:=?_) (fuel:=8) rfl (by kernel_rfl) (by kernel_rfl) (by kernel_rfl) (by kernel_rfl) (fun _ _ _ h=>h) (by rfl) ?_ hHeld ?_
   rotate_left 1
   ·(intro w' hSw;(try dsimp only at hSw);go_simp <;> with_reducible rfl)
   refine wpAnyT_take (i:=5) (oi:=_) (v:=?_) (fuel:=7) rfl (by kernel_rfl) (by kernel_rfl) (by kernel_rfl) (by kernel_rfl) (fun _ _ _ h=>h) (by rfl) ?_ hHeld ?_
   rotate_left 1
   ·(intro w' hSw;(try dsimp only at hSw);go_simp <;> with_reducible rfl)
   refine wpAnyT_take (i:=6) (oi:=_) (v:=?_) (fuel:=6) rfl (by kernel_rfl) (by kernel_rfl) (by kernel_rfl) (by kernel_rfl) (fun _ _ _ h=>h) (by rfl) ?_ hHeld ?_
   rotate_left 1
   ·(intro w' hSw;(try dsimp only at hSw);go_simp <;> with_reducible rfl)
   refine wpAnyT_take (i:=7) (oi:=_) (v:=?_) (fuel:=5) rfl (by kernel_rfl) (by kernel_rfl) (by kernel_rfl) (by kernel_rfl) (fun _ _ _ h=>h) (by rfl) ?_ hHeld ?_
   rotate_left 1
   ·(intro w' hSw;(try dsimp only at hSw);go_simp <;> with_reducible rfl)
   refine wpAnyT_take (i:=8) (oi:=_) (v:=?_) (fuel:=4) rfl (by kernel_rfl) (by kernel_rfl) (by kernel_rfl) (by kernel_rfl) (fun _ _ _ h=>h) (by rfl) ?_ hHeld ?_
   rotate_left 1
   ·(intro w' hSw;(try dsimp only at hSw);go_simp <;> with_reducible rfl)
   clear hHeld
   simp only[Act.put,List.setIfInBounds_toArray]
   refine wpAnyT_step (i:=4) (o:=_) (fuel:=3) rfl (by kernel_rfl) (fun K hK=>?_)
   go_simp
   refine(ih _ tA (hM.bl slc) hlA).mono ?_
   rintro e wA ⟨gA,cA,rfl,hA,hbA⟩
   have hbA:Bl W2 wA:=(show Bl W2 W2.drew from slc).next hbA
   refine hK.out _ _ (fun _=>⟨bx5 (T:=58) (q8.bl slc),bx5 (T:=58) (q9.bl slc)⟩) ?_
   clear hK K
   try simp only[Act.put,List.setIfInBounds_toArray,List.set_cons_zero,List.set_cons_succ]
   refine wpAnyT_step (i:=9) (o:=_) (fuel:=2) rfl (by kernel_rfl) (fun K hK=>?_)
   go_simp
   refine(ih _ tB (hM.bl slc) hlB).mono ?_
   rintro e wB ⟨gB,cB,rfl,hB,hbB⟩
   have hbB:Bl W2 wB:=hbA.next hbB
   have hA:=hA.bl (show Bl wA wB from slc)
   obtain⟨gB',cB',eB,_,hrB,_,_⟩:=hB.lit (fun e=>by cases e)
   cases eB
   have hzA:W2.heap.size≤wB.heap.size:=hbB.size
   have hbW:=hbw.next hbB
   refine hK.out _ _ (fun _=>⟨bx5 (T:=58) (q8.bl slc),bx5 (T:=58) (q9.bl slc)⟩) ?_
   clear hK K
   try simp only[Act.put,List.setIfInBounds_toArray,List.set_cons_zero,List.set_cons_succ]
   refine wpAnyT_step (i:=10) (o:=_) (fuel:=1) rfl (by kernel_rfl) (fun K hK=>?_)
   refine step_append_tris rfl (.tmp 34) (.tmp 39) rfl _ (bsT mid d tA) (by rfl) hA hzA w hbW (by exact hbw.size) gB _ cB (by rfl) (bsT mid d tB) hrB (by omega) (by omega) ?_
   intro v' w8 hO hnil hb8' hoth
   have hvn:v'≠.slice none 0 0:=fun e=>by have:=(hnil.1 e).1;cases this
   obtain⟨g',c',rfl,hg',_,_,_⟩:=hO.lit hvn
   have hq8:=q8.bl hbB
   have hq9:=q9.bl hbB
   have q8:Blk w8 g8' 58 _:=((hoth.2 g8' hq8.lt (fun e=>by have h1:W2.heap.size≤_:=(hA.blk e).1;omega)).1).trans hq8
   have q9:Blk w8 g9 58 _:=((hoth.2 g9 hq9.lt (fun e=>by have h1:W2.heap.size≤_:=(hA.blk e).1;omega)).1).trans hq9
   refine hK.out _ _ (fun _=>⟨bx5 (T:=58) (q8.bl slc),bx5 (T:=58) (q9.bl slc)⟩) ?_
   clear hK K
   try simp only[Act.put,List.setIfInBounds_toArray]
   refine wpAnyT_step (i:=11) (o:=_) (fuel:=0) rfl (by kernel_rfl) (fun K hK=>?_)
   go_simp
   refine hK.out _ _ (fun h=>absurd rfl h) ?_
   clear hK K
   try simp only[Act.put,List.setIfInBounds_toArray]
   refine wpAnyT_done (by kernel_rfl) ?_
   go_wp2_with fail
   go_ret
   rw[hv.out]
   refine⟨g',c',?_,hO.low' hbw.size,hb8'⟩
   rw[List.length_append]
   rfl
end
section
open Go.RowKit
def NotIn (xs:List Nat) (fs:List Nat):Prop:=∀b∈fs,b∉xs
theorem appN_notIn (xs:List Nat):AppN (NotIn xs) :=
 ⟨fun b hb=>(by cases hb),fun _ _ h k _ b hb=>(List.mem_append.1 hb).elim (h b) (k b)⟩
theorem OwPN.notIn {xs:List Nat}{b0:Nat}{w:World}{s:Bool}{A:Option Addr}{n c:Nat}{B:Option Addr}{m d:Nat}{t:Bool}{C:Option Addr}{i e:Nat}{D:Option Addr}{j f:Nat}{p:PtD}(h:OwP 3 b0 w s A n c B m d t C i e D j f p) (hx:∀b∈xs,b<b0):OwPN (NotIn xs) 3 b0 w s A n c B m d t C i e D j f p:=by
 obtain⟨c1,c2,h1,h2,hf,_⟩:=OwPN.q h
 exact⟨c1,c2,h1,h2,hf,fun b hb hm=>by have:=(hf b hb).1;have:=hx b hm;omega⟩
theorem RowP.notIn {xs:List Nat}{N:List Nat→Prop}{lo:Nat}{w W:World}{v:Value}{l:List PtD}(h:RowP N lo w.heap.size w v l) (hb:Bl w W) (hx:∀b∈xs,w.heap.size≤b):RowP (NotIn xs) lo W.heap.size W v l :=
 RowG.up (RowG.keepX (ptIn_keep 3) h hb.size (fun g e=>Below.block hb g (RowG.lo h e).2) (fun _ _ hm=>⟨fun b hb'=>Below.block hb b (hm b hb').2,fun b hb' hc=>by have:=(hm b hb').2;have:=hx b hc;omega⟩)) hb.size (Nat.le_refl _)
theorem RowP.setX {xs:List Nat}{lo:Nat}{w:World}{v:Value}{l:List PtD}(h:RowP (NotIn xs) lo w.heap.size w v l) {q:Addr}(hq:q.block∈xs) (hv:v.ownBlock≠some q.block) (u:Value):RowP (NotIn xs) lo (w.setCell q u).heap.size (w.setCell q u) v l:=by
 have hs:(w.setCell q u).heap.size=w.heap.size:=by simp
 rw[hs]
 exact RowG.keepX (ptIn_keep 3) h (by simp) (fun g e=>Below.heap_setCell w q u g fun e2=>hv (by rw[e,e2])) (fun bs hN _=>⟨fun b hb=>Below.heap_setCell w q u b fun e2=>hN b hb (by rw[e2];exact hq),hN⟩)
theorem RowP.obX {xs:List Nat}{lo g:Nat}{w W:World}{v:Value}{l:List PtD}(h:RowP (NotIn xs) lo w.heap.size w v l) (ho:Ob [g] w W) (hg:g∈xs) (hv:v.ownBlock≠some g):RowP (NotIn xs) lo W.heap.size W v l :=
 RowG.up (RowG.keepX (ptIn_keep 3) h ho.size (fun b e=>ho.block b (RowG.lo h e).2 (by simp;rintro rfl;exact hv e)) (fun bs hN hm=>⟨fun b hb=>ho.block b (hm b hb).2 (by simp;rintro rfl;exact hN b hb hg),hN⟩)) ho.size (Nat.le_refl _)
theorem Ow.ob' {T:TypeId}{w W:World}{g b:Nat}{l:List Int}(h:Ow T w g l) (ho:Ob [b] w W) (hg:g≠b):Ow T W g l:=(ho.block g (Ow.lt h) (by simpa using hg)).trans h
theorem Ow.oth {T:TypeId}{g:Nat}{v v':Value}{W w':World}{l:List Int}(h:Ow T W g l) (ho:∀g,g<W.heap.size→v.ownBlock≠Option.some g→w'.heap[g]?=W.heap[g]?∧v'.ownBlock≠Option.some g) (hn:v.ownBlock≠some g):Ow T w' g l:=(ho g (Ow.lt h) hn).1.trans h
theorem Ob.app {g7:Nat}{W3 W7 W w8:World}(hO:Ob [g7] W7 W) (h3:Bl W3 W7) (h8:Bl W3 w8) (hs:W.heap.size≤w8.heap.size) (hB:∀b,b<W7.heap.size→w8.heap[b]?=W.heap[b]?):Ob [g7] W7 w8 :=
 ⟨(Below.os h8).trans (Below.os h3).symm,(Below.tape h8).trans (Below.tape h3).symm,(Below.output h8).trans (Below.output h3).symm,Nat.le_trans hO.size hs,fun b hb hn=>(hB b hb).trans (hO.block b hb hn)⟩
theorem OwT.nil0 {base:Nat}{w:World}{l:List TriD}(h:OwT base w (.slice none 0 0) l):l=[]:=by
 rcases h.2 with ⟨_,h0⟩ |⟨g,cap,cur,hv,_⟩
 ·exact List.length_eq_zero_iff.1 h0
 ·cases hv
def mdC (bl:List Bool) (n ne k:Nat):List Int:=(List.range ne).map fun i=>if i<k then (if bgt bl i=true then ((n+(lsTo bl i).length:Nat):Int)else -1)else 0
theorem mdC_len (bl:List Bool) (n ne k:Nat):(mdC bl n ne k).length=ne:=by simp[mdC]
theorem mdC_zero (bl:List Bool) (n ne:Nat):List.replicate ne 0=mdC bl n ne 0:=by
 refine List.ext_getElem (by simp[mdC]) fun i h1 h2=>?_
 simp[mdC]
theorem mdC_all (bl:List Bool) (n ne:Nat):mdC bl n ne ne=mdTo bl n ne:=by
 refine List.ext_getElem (by simp[mdC,mdTo]) fun i h1 h2=>?_
 have:i<ne:=by simpa [mdC]using h1
 simp[mdC,mdTo,this]
theorem mdC_set {bl:List Bool}{n ne k:Nat}{x:Int}(hx:(if bgt bl k=true then ((n+(lsTo bl k).length:Nat):Int)else -1)=x):(mdC bl n ne k).set k x=mdC bl n ne (k+1):=by
 refine List.ext_getElem (by simp[mdC]) fun i h1 h2=>?_
 rw[List.getElem_set]
 by_cases e:k=i
 ·subst e
  rw[if_pos rfl]
  simp only[mdC,List.getElem_map,List.getElem_range]
  rw[if_pos (Nat.lt_succ_self _),hx]
 ·rw[if_neg e]
  simp only[mdC,List.getElem_map,List.getElem_range]
  by_cases h:i<k
  ·have h3:i<k+1:=by omega
   simp only[h,h3,if_true]
  ·have h3:¬i<k+1:=by omega
   simp only[h,h3,if_false]
theorem mdC_no {bl:List Bool}{n ne k:Nat}(h:bgt bl k=false):(mdC bl n ne k).set k (-1)=mdC bl n ne (k+1):=mdC_set (by rw[h];rfl)
theorem mdC_yes {bl:List Bool}{n ne k:Nat}(h:bgt bl k=true):((mdC bl n ne k).set k (-1)).set k ((n+(lsTo bl k).length:Nat):Int)=mdC bl n ne (k+1):=by
 rw[List.set_set]
 exact mdC_set (by rw[h];rfl)
theorem bpM_yes (mq:MeQ) (L:List EdD) {bl:List Bool}{k:Nat}(h:bgt bl k=true):(bpTo mq L bl k).map tp++[tp (mdP mq L (k:Int))]=(bpTo mq L bl (k+1)).map tp:=by rw[bpTo_yes mq L h,List.map_append];rfl
theorem bisected2 {g5 g8:Nat}{L:List EdD}{md:List Int}(hs:SrtE L) (w:World) (t:TriD) (hM:MidAt w g5 g8 L md) (hl : -1000≤t.level∧t.level≤998) :
  Calls Tryz.prog 76 #[.agg #[.int .i64 t.a,.int .i64 t.b,.int .i64 t.c,.int .i64 t.region,.int .i64 t.level],.func (.func 75) #[] #[.pointer (some ⟨g5,0,none⟩),.pointer (some ⟨g8,0,none⟩)],.int .i64 2] w (TrisOw w (bsT (midF L md) 2 t)) :=
 bisected_any hs 2 (by omega) w t hM (by simpa using hl)
def MeOw (b0:Nat) (w:World) (v:Value) (mq:MeQ):Prop:=MeAt w v mq∧∀w',w.heap.size≤w'.heap.size→(∀b,b0≤b→b<w.heap.size→w'.heap[b]?=w.heap[b]?)→MeAt w' v mq
section
variable {b0 b1:Nat}{w W:World}{v:Value}{mq:MeQ}
theorem MeOw.bl (h:MeOw b0 w v mq) (hb:Bl w W):MeOw b0 W v mq :=
 ⟨h.1.bl hb,fun w' hs hk=>h.2 w' (Nat.le_trans hb.size hs) fun b h1 h2=>(hk b h1 (Nat.lt_of_lt_of_le h2 hb.size)).trans (Below.block hb b h2)⟩
theorem MeOw.low (h:MeOw b1 w v mq) (hb:b0≤b1):MeOw b0 w v mq:=⟨h.1,fun w' hs hk=>h.2 w' hs fun b h1 h2=>hk b (Nat.le_trans hb h1) h2⟩
theorem MeOw.setLow (h:MeOw b0 w v mq) {q:Addr}(hq:q.block<b0) (u:Value):MeOw b0 (w.setCell q u) v mq :=
 ⟨h.2 _ (by simp) fun b h1 _=>Below.heap_setCell w q u b (by omega),fun w' hs hk=>h.2 w' (by simpa using hs) fun b h1 h2=>(hk b h1 (by simpa using h2)).trans (Below.heap_setCell w q u b (by omega))⟩
theorem MeOw.of {N:List Nat→Prop}{lo gp n c gt m ct:Nat}(hrow:RowP N lo w.heap.size w (.slice (some ⟨gp,0,none⟩) n c) (mq.pts.map tp)) (hT:OwT b1 w (.slice (some ⟨gt,0,none⟩) m ct) mq.tris) (h1:b0≤lo) (h2:b0≤b1) (hlen:mq.pts.length≤1048576):MeOw b0 w (.agg #[.slice (some ⟨gp,0,none⟩) n c,.slice (some ⟨gt,0,none⟩) m ct]) mq:=by
 have key:∀w',w.heap.size≤w'.heap.size→(∀b,b0≤b→b<w.heap.size→w'.heap[b]?=w.heap[b]?)→MeAt w' (.agg #[.slice (some ⟨gp,0,none⟩) n c,.slice (some ⟨gt,0,none⟩) m ct]) mq:=fun w' hs hk=>by
  have hr:=RowG.keep (ptIn_keep 3) hrow hs fun b h3 h4=>hk b (Nat.le_trans h1 h3) h4
  have ht:=hT.keep fun g e=>hk g (Nat.le_trans h2 (hT.blk e).1) (hT.blk e).2
  obtain⟨gt',ct',e,_,hTr,_,_⟩:=ht.lit (fun e=>by cases e)
  injection e with e1 e2 e3
  injection e1 with e1
  injection e1 with e1
  subst e1 e3
  rw[←e2]at hTr
  exact⟨gp,n,c,gt,m,ct,rfl,RowP.rdN hr (by rw[List.length_map];exact hlen),hTr⟩
 exact⟨key w (Nat.le_refl _) fun _ _ _=>rfl,key⟩
end
def MeRes (w:World) (mq:MeQ) (e:Ending) (w':World):Prop:=∃v2,e=.returned v2∧MeOw w.heap.size w' v2 mq∧Bl w w'
end
end Go.Proofs.YtmkcacgmnnlddaaGreat
