import Derived.Test.YtmkcacgmnnlddaaGreatRows
import Derived.Test.YtmkcacgmnnlddaaGreatPClosureM31
import Derived.Test.YtmkcacgmnnlddaaGreatPClosureM21
import Derived.Deep.Cut
import Derived.Deep.DeepCutAuto
namespace Go.Proofs.YtmkcacgmnnlddaaGreat
set_option maxRecDepth 100000
set_option maxHeartbeats 32000000
section
open Go.RowKit
theorem RdTS.setLit {w:World}{g n c:Nat}{l:List TriD}(h:RdTS w (some ⟨g,0,none⟩) n c l) {p:Addr}(hp:g≠p.block) (u:Value):RdTS (w.setCell p u) (some ⟨g,0,none⟩) n c l:=by
 refine⟨h.len,h.cap,h.small,fun k hk=>?_⟩
 obtain⟨ad,e,hlt,c0,c1,c2,c3,c4⟩:=h.cells k hk
 refine⟨ad,e,by simpa using hlt,?_⟩
 cases e
 rw[Addr.add_lit]at c0 c1 c2 c3 c4 ⊢
 have hne:∀o,p≠(⟨g,o,none⟩:Addr):=fun o e=>hp (by rw[e])
 exact⟨by rw[World.cell?_setCell_other (h:=hne _)];exact c0,by rw[World.cell?_setCell_other (h:=hne _)];exact c1,by rw[World.cell?_setCell_other (h:=hne _)];exact c2,by rw[World.cell?_setCell_other (h:=hne _)];exact c3,by rw[World.cell?_setCell_other (h:=hne _)];exact c4⟩
theorem emTo_succ (ts:List TriD) (L:List EdD) (ks:List Int) (k:Nat):emTo ts L ks (k+1)=(emTo ts L ks k).set (posE (newE (pix ts (ix ks k).toNat).b (pix ts (ix ks k).toNat).c) L) true:=rfl
theorem edgeMarks_any (w:World) {A:Option Addr}{n cp gt m ct:Nat}{ts:List TriD}(ht:RdTS w (some ⟨gt,0,none⟩) m ct ts) (hm:m≤10000) {B:Option Addr}{k d:Nat}{list:List Int}(hl:RdI w B k d list) (hk:k≤1048576) (hE:EdHas ts (edL ts)) :
  Calls Tryz.prog 40 #[.agg #[.slice A n cp,.slice (some ⟨gt,0,none⟩) m ct],.slice B k d] w (IntsOw w (emA ts list)):=by
 replace hE:=Lib.hid hE
 have hlt:=Lib.hid ht.len
 have hlE:(edL ts).length≤30000:=by have h:=edTo_len ts ts.length;rw[ht.len]at h;unfold edL;rw[ht.len];omega
 have hcpt:=ht.cap
 have hemA:=Lib.hid (show emA ts list=lsA (emTo ts (edL ts) (lsA (mkA list m)) (lsA (mkA list m)).length)by unfold emA emB;rw[ht.len])
 have hsrt:=Lib.hid (show SrtE (edL ts)from edTo_srt ts _)
 go_enter Tryz.func40,Tryz.ntmps40
 go_wp2_with fail
 refine calls_gen (fun W=>Bl w W∧Blk W w.heap.size 26 #[.slice A n cp,.slice (some ⟨gt,0,none⟩) m ct]) ⟨slc,bts⟩ ?_
 rintro W ⟨hbW,h4⟩
 refine(edges_any _ (RdTS.bl ht hbW) hm).mono ?_
 rintro e w1 ⟨ge,ne,ce,rfl,hes,hge,hb1⟩
 have h4:=h4.bl hb1
 have hbW:=hbW.next hb1
 have hgeg:0<ne→ge<w1.heap.size:=fun h=>by
  obtain⟨ad,e,hlt,_⟩:=hes.cells 0 h
  injection e with e
  rw[←e]at hlt
  exact hlt
 clear hb1 hge
 have hne:=Lib.hid hes.len
 have hnl3:ne≤30000:=by rw[←hes.len];exact hlE
 have hnl:ne≤1048576:=by omega
 obtain⟨L,hL⟩:∃L,edL ts=L:=⟨_,rfl⟩
 rw[hL]at hes hne hE hemA hsrt
 clear hL hlE
 have hmk:=fun W:World=>make_bools ne hnl W
 obtain⟨r0,r1⟩:=bx2 (h4.alloc (mkBools ne))
 go_wp2_with fail
 clear r0 r1
 refine calls_gen (fun W=>Bl w1 W∧∃gm,OwU W gm ne (bgt (List.replicate L.length false))∧gm=w1.heap.size) ⟨by exact slc,_,OwU.made w1 ne _ (fun i=>bgt_rep _ i),rfl⟩ ?_
 rintro W2 ⟨hbW2,gm,hU,hgm⟩
 rw[←hgm]
 clear hmk
 have h4l:=h4.lt
 have h4g:w.heap.size<gm:=by omega
 have h4:=h4.bl hbW2
 have hes:=hes.bl hbW2
 have hbW:=hbW.next hbW2
 have hltm:m≤1048576:=by omega
 rw[←hgm]at hgeg
 clear hgm h4l
 refine(markedOf_any _ (hl.bl hbW) hk m hltm).mono ?_
 rintro e w2 ⟨g2,rfl,hU2,hg2,hb2⟩
 have h4:=h4.bl hb2
 have hes:=hes.bl hb2
 have hU:=hU.bl hb2
 have hgm2:=hU.lt
 have hbW:=hbW.next hb2
 clear hb2 hbW2 hg2
 go_wp2_with fail
 refine(listed_any _ hU2 (mkA_len list m) hltm).mono ?_
 rintro e w3 ⟨B3,k3,d3,rfl,hR,hb3⟩
 have h4:=h4.bl hb3
 have hes:=hes.bl hb3
 have hU:=hU.bl hb3
 have hbW:=hbW.next hb3
 have hR:=hR.mono (show gm+1≤w2.heap.size from hgm2)
 clear hb3 hgm2
 have hk3b:k3≤1048576:=by
  have h1:=hR.rd.len
  have h2:=lsTo_len (mkA list m) (mkA list m).length
  rw[mkA_len]at h2
  have h3:(lsA (mkA list m)).length=(lsTo (mkA list m) m).length:=by unfold lsA;rw[mkA_len]
  omega
 obtain⟨ks,hks⟩:∃ks,lsA (mkA list m)=ks:=⟨_,rfl⟩
 have hksm:∀i,i<ks.length→0≤ix ks i∧ix ks i<m:=by rw[←hks];intro i hi;have:=lsA_ix hi;rw[mkA_len]at this;exact this
 rw[hks]at hR hemA
 clear hks
 replace hksm:=Lib.hid hksm
 have hkl:=Lib.hid hR.rd.len
 have hkc:=hR.rd.cap
 go_wp2_with fail
 go_loopw [21] (fun v wr=>∃i:Nat,i≤k3∧v=.int .i64 (i:Int)∧OwU wr gm ne (bgt (emTo ts L ks i))∧RdES wr (some ⟨ge,0,none⟩) ne ce L∧Blk wr w.heap.size 26 #[.slice A n cp,.slice (some ⟨gt,0,none⟩) m ct]∧OwI 3 (gm+1) wr B3 k3 d3 ks∧Bl w wr) (fun v _=>k3-(intOf v).toNat)
 case atStart=>exact⟨0,by omega,rfl,hU,hes,h4,hR,hbW⟩
 case round=>
  clear hU hes h4 hR hbW
  obtain⟨i,hi,rfl,hU,hes,h4,hR,hbw⟩:=hrel
  obtain⟨wj,rfl⟩:∃wj:World,wj=wr:=⟨_,rfl⟩
  have hemS:=Lib.hid (emTo_succ ts L ks i)
  by_cases hin:i<k3
  ·have hii:(i:Int)<(k3:Int):=by omega
   obtain⟨ad,rfl,hlta,hca⟩:=hR.rd.cells i hin
   have hxb:=hksm.out i (by rw[hkl.out];exact hin)
   obtain⟨x,hx⟩:∃x,ix ks i=x:=⟨_,rfl⟩
   rw[hx]at hca hxb hemS
   obtain⟨xn,rfl⟩:∃xn:Nat,x=(xn:Int):=⟨x.toNat,by omega⟩
   rw[Int.toNat_natCast]at hemS
   have hxm:xn<m:=by omega
   have hxmi:(xn:Int)<(m:Int):=by omega
   have hEx:=(hE.out xn (by rw[hlt.out];exact hxm)).1
   obtain⟨y0,y1,y2,y3,y4⟩:=trs_lit (RdTS.bl ht hbw) hxm
   have hgl:gt<wj.heap.size:=by obtain⟨ad2,e2,hlt2,_⟩:=(RdTS.bl ht hbw).cells xn hxm;injection e2 with e2;rw[←e2]at hlt2;exact hlt2
   obtain⟨t,ht_⟩:∃t,pix ts xn=t:=⟨_,rfl⟩
   rw[ht_]at y1 y2 hEx hemS
   obtain⟨P,hPe⟩:∃P,posE (newE t.b t.c) L=P:=⟨_,rfl⟩
   have hPn:P<ne:=by rw[←hPe,←hne.out];exact fndE_lt hEx
   have hPi:(P:Int)<(ne:Int):=by omega
   rw[hPe]at hemS
   replace hPe:=Lib.hid hPe
   have hfe:=Lib.hid hEx
   clear hEx ht_ hx y0 y3 y4
   go_upto_region 6 with (fail)
   have hHeld:(fun w'=>(w'.cell? ⟨w.heap.size,0,none⟩=some (.slice A n cp)∧w'.cell? ⟨w.heap.size,1,none⟩=some (.slice (some ⟨gt,0,none⟩) m ct))∧w'.cell? ⟨gt,xn*5+1,none⟩=some (.int .i64 t.b)∧w'.cell? ⟨gt,xn*5+2,none⟩=some (.int .i64 t.c)) (wj.drew):=⟨bx2 (T:=26) (h4.bl slc),(Bl.cellOf (w:=wj) (p:=⟨gt,xn*5+1,none⟩) slc hgl).trans y1,(Bl.cellOf (w:=wj) (p:=⟨gt,xn*5+2,none⟩) slc hgl).trans y2⟩
   refine wp_region_T 16 17 (fun w'=>(w'.cell? ⟨w.heap.size,0,none⟩=some (.slice A n cp)∧w'.cell? ⟨w.heap.size,1,none⟩=some (.slice (some ⟨gt,0,none⟩) m ct))∧w'.cell? ⟨gt,xn*5+1,none⟩=some (.int .i64 t.b)∧w'.cell? ⟨gt,xn*5+2,none⟩=some (.int .i64 t.c)) rfl (by kernel_rfl) hHeld ?_
   refine wpAnyT_take (i:=0) (oi:=_) (v:=?_) (fuel:=16) rfl (by kernel_rfl) (by kernel_rfl) (by kernel_rfl) (by kernel_rfl) (fun _ _ _ h=>h) (by rfl) ?_ hHeld ?_
   rotate_left 1
   ·(intro w' hSw;(try dsimp only at hSw);go_simp <;> with_reducible rfl)
   refine wpAnyT_take (i:=1) (oi:=_) (v:=?_) (fuel:=15) rfl (by kernel_rfl) (by kernel_rfl) (by kernel_rfl) (by kernel_rfl) (fun _ _ _ h=>h) (by rfl) ?_ hHeld ?_
   rotate_left 1
   ·(intro w' hSw;(try dsimp only at hSw);go_simp <;> with_reducible rfl)
   refine wpAnyT_take (i:=2) (oi:=_) (v:=?_) (fuel:=14) rfl (by kernel_rfl) (by kernel_rfl) (by kernel_rfl) (by kernel_rfl) (fun _ _ _ h=>h) (by rfl) ?_ hHeld ?_
   rotate_left 1
   ·(intro w' hSw;(try dsimp only at hSw);go_simp <;> with_reducible rfl)
   refine wpAnyT_take (i:=3) (oi:=_) (v:=?_) (fuel:=13) rfl (by kernel_rfl) (by kernel_rfl) (by kernel_rfl) (by kernel_rfl) (fun _ _ _ h=>h) (by rfl) ?_ hHeld ?_
   rotate_left 1
   ·(intro w' hSw;(try dsimp only at hSw);go_simp <;> with_reducible rfl)
   refine wpAnyT_take (i:=4) (oi:=_) (v:=?_) (fuel:=12) rfl (by kernel_rfl) (by kernel_rfl) (by kernel_rfl) (by kernel_rfl) (fun _ _ _ h=>h) (by rfl) ?_ hHeld ?_
   rotate_left 1
   ·(intro w' hSw;(try dsimp only at hSw);go_simp <;> with_reducible rfl)
   refine wpAnyT_take (i:=5) (oi:=_) (v:=?_) (fuel:=11) rfl (by kernel_rfl) (by kernel_rfl) (by kernel_rfl) (by kernel_rfl) (fun _ _ _ h=>h) (by rfl) ?_ hHeld ?_
   rotate_left 1
   ·(intro w' hSw;(try dsimp only at hSw);go_simp <;> with_reducible rfl)
   refine wpAnyT_take (i:=6) (oi:=_) (v:=?_) (fuel:=10) rfl (by kernel_rfl) (by kernel_rfl) (by kernel_rfl) (by kernel_rfl) (fun _ _ _ h=>h) (by rfl) ?_ hHeld ?_
   rotate_left 1
   ·(intro w' hSw;(try dsimp only at hSw);go_simp <;> with_reducible rfl)
   refine wpAnyT_take (i:=7) (oi:=_) (v:=?_) (fuel:=9) rfl (by kernel_rfl) (by kernel_rfl) (by kernel_rfl) (by kernel_rfl) (fun _ _ _ h=>h) (by rfl) ?_ hHeld ?_
   rotate_left 1
   ·(intro w' hSw;(try dsimp only at hSw);go_simp <;> with_reducible rfl)
   refine wpAnyT_take (i:=8) (oi:=_) (v:=?_) (fuel:=8) rfl (by kernel_rfl) (by kernel_rfl) (by kernel_rfl) (by kernel_rfl) (fun _ _ _ h=>h) (by rfl) ?_ hHeld ?_
   rotate_left 1
   ·(intro w' hSw;(try dsimp only at hSw);go_simp <;> with_reducible rfl)
   refine wpAnyT_take (i:=9) (oi:=_) (v:=?_) (fuel:=7) rfl (by kernel_rfl) (by kernel_rfl) (by kernel_rfl) (by kernel_rfl) (fun _ _ _ h=>h) (by rfl) ?_ hHeld ?_
   rotate_left 1
   ·(intro w' hSw;(try dsimp only at hSw);go_simp <;> with_reducible rfl)
   refine wpAnyT_take (i:=10) (oi:=_) (v:=?_) (fuel:=6) rfl (by kernel_rfl) (by kernel_rfl) (by kernel_rfl) (by kernel_rfl) (fun _ _ _ h=>h) (by rfl) ?_ hHeld ?_
   rotate_left 1
   ·(intro w' hSw;(try dsimp only at hSw);go_simp <;> with_reducible rfl)
   refine wpAnyT_take (i:=11) (oi:=_) (v:=?_) (fuel:=5) rfl (by kernel_rfl) (by kernel_rfl) (by kernel_rfl) (by kernel_rfl) (fun _ _ _ h=>h) (by rfl) ?_ hHeld ?_
   rotate_left 1
   ·(intro w' hSw;(try dsimp only at hSw);go_simp <;> with_reducible rfl)
   refine wpAnyT_take (i:=12) (oi:=_) (v:=?_) (fuel:=4) rfl (by kernel_rfl) (by kernel_rfl) (by kernel_rfl) (by kernel_rfl) (fun _ _ _ h=>h) (by rfl) ?_ hHeld ?_
   rotate_left 1
   ·(intro w' hSw;(try dsimp only at hSw);go_simp <;> with_reducible rfl)
   refine wpAnyT_take (i:=13) (oi:=_) (v:=?_) (fuel:=3) rfl (by kernel_rfl) (by kernel_rfl) (by kernel_rfl) (by kernel_rfl) (fun _ _ _ h=>h) (by rfl) ?_ hHeld ?_
   rotate_left 1
   ·(intro w' hSw;(try dsimp only at hSw);go_simp <;> with_reducible rfl)
   clear hHeld
   simp only[Act.put,List.setIfInBounds_toArray]
   refine wpAnyT_step (i:=14) (o:=_) (fuel:=2) rfl (by kernel_rfl) (fun K hK=>?_)
   go_simp
   refine(edgeIndex_yes _ (hes.bl slc) hsrt.out hnl t.b t.c hfe.out).mono ?_
   rw[hPe.out]
   rintro e w5 ⟨rfl,hb5⟩
   have hb5:Bl wj w5:=slc
   have hU5:=hU.bl hb5
   have ux:=hU5.cell hPn
   have uf:=hU5.frozen P
   refine hK.out _ _ (fun _=>⟨bx2 (T:=26) (h4.bl slc),(Bl.cellOf (w:=wj) (p:=⟨gt,xn*5+1,none⟩) slc hgl).trans y1,(Bl.cellOf (w:=wj) (p:=⟨gt,xn*5+2,none⟩) slc hgl).trans y2⟩) ?_
   clear hK K
   try simp only[Act.put,List.setIfInBounds_toArray,List.set_cons_zero,List.set_cons_succ]
   refine wpAnyT_step (i:=15) (o:=_) (fuel:=1) rfl (by kernel_rfl) (fun K hK=>?_)
   go_simp
   refine hK.out _ _ (fun _=>⟨bx2 (T:=26) (h4.bl slc),(Bl.cellOf (w:=wj) (p:=⟨gt,xn*5+1,none⟩) slc hgl).trans y1,(Bl.cellOf (w:=wj) (p:=⟨gt,xn*5+2,none⟩) slc hgl).trans y2⟩) ?_
   clear hK K
   try simp only[Act.put,List.setIfInBounds_toArray,List.set_cons_zero,List.set_cons_succ]
   refine wpAnyT_step (i:=16) (o:=_) (fuel:=0) rfl (by kernel_rfl) (fun K hK=>?_)
   go_simp
   refine hK.out _ _ (fun h=>absurd rfl h) ?_
   clear hK K
   try simp only[Act.put,List.setIfInBounds_toArray]
   refine wpAnyT_done (by kernel_rfl) ?_
   go_wp2_with fail
   go_roundw
   case rel=>exact⟨i+1,by omega,by go_num,(hU5.set P true).congr (fun j hj=>by rw[hemS.out];exact bgt_set (by rw[emTo_len,hne.out]) true j hj),(hes.bl hb5).setLit (show ge≠gm by have:=hgeg (by omega);omega) _,(h4.bl hb5).far (show w.heap.size≠gm by omega) _,(hR.bl hb5).far (show gm<gm+1 by omega) _,Bl.set (hbw.next hb5) (by show w.heap.size≤gm;omega) _⟩
   case measure=>simp[intOf];omega
  ·obtain rfl:i=k3:=by omega
   have hkm2:¬(i:Int)<(i:Int):=by omega
   go_wp2_with fail
   refine(listed_any _ hU (by rw[emTo_len,hne.out]) hnl).mono ?_
   rintro e w6 ⟨B6,k6,d6,rfl,hR6,hb6⟩
   go_wp2_with fail
   go_ret
   exact⟨B6,k6,d6,rfl,by rw[hemA.out,hkl.out];exact hR6.mono hbw.size,hbw.next hb6⟩
end
section
open Go.RowKit
theorem clT_no {L:List EdD}{t:TriD}{x:List Bool × Bool}{P0 P1 P2:Nat}(e0:posE (newE t.b t.c) L=P0) (e1:posE (newE t.a t.b) L=P1) (e2:posE (newE t.c t.a) L=P2) (h:bgt x.1 P0=true∨(bgt x.1 P1=false∧bgt x.1 P2=false)):clT L t x=x:=by
 subst e0 e1 e2
 unfold clT
 refine if_neg fun hc=>?_
 rcases h with h |⟨h1,h2⟩
 ·rw[h]at hc;exact absurd hc.1 (by decide)
 ·rw[h1,h2]at hc;rcases hc.2 with h|h <;> exact absurd h (by decide)
theorem clT_yes {L:List EdD}{t:TriD}{x:List Bool × Bool}{P0 P1 P2:Nat}(e0:posE (newE t.b t.c) L=P0) (e1:posE (newE t.a t.b) L=P1) (e2:posE (newE t.c t.a) L=P2) (h0:bgt x.1 P0=false) (h:bgt x.1 P1=true∨bgt x.1 P2=true):clT L t x=(x.1.set P0 true,true):=by
 subst e0 e1 e2
 unfold clT
 exact if_pos ⟨h0,h⟩
def isDn:Option Value→Bool
 | some (.bool false)=>true
 | _=>false
def dnW (w:World) (g n:Nat):Nat:=(List.range n).countP fun i=>isDn (w.cell? ⟨g,i,none⟩)
theorem dnW_eq {w:World}{g n:Nat}{bl:List Bool}(h:OwU w g n (bgt bl)) (hl:bl.length=n):dnW w g n=dnB bl:=by
 have e:bl=(List.range n).map (bgt bl):=by
  refine List.ext_getElem (by simp[hl]) fun i h1 h2=>?_
  simp[bgt,h1]
 have h1:dnW w g n=(List.range n).countP fun i=> bgt bl i == false:=by
  unfold dnW
  refine List.countP_congr fun i hi=>?_
  rw[h.cell (List.mem_range.1 hi)]
  cases bgt bl i <;> simp[isDn]
 rw[h1]
 unfold dnB
 conv=>rhs;rw[e]
 rw[List.count_eq_countP,List.countP_map]
 rfl
def bTrue:Value→Nat
 | .bool true=>1
 | _=>0
def ClInv (ts:List TriD) (L:List EdD) (R:List Bool) (f:Nat) (bl:List Bool) (c:Bool):Prop:=if c=true then clF ts L f bl=R∧dnB bl<f else bl=R
theorem ClInv.step {ts:List TriD}{L:List EdD}{R:List Bool}{f:Nat}{bl:List Bool}{x:List Bool × Bool}(h:ClInv ts L R f bl true) (hx:x=clTo ts L bl ts.length) (hl:bl.length=L.length) (hE:EdHas ts L):∃f',ClInv ts L R f' x.1 x.2:=by
 unfold ClInv at h
 rw[if_pos rfl]at h
 obtain⟨h1,h2⟩:=h
 have hd:=clTo_dn hl hE ts.length (Nat.le_refl _)
 rw[←hx]at hd
 rcases f with _|f
 ·omega
 ·unfold clF at h1
  rw[←hx]at h1
  refine⟨f,?_⟩
  unfold ClInv
  by_cases hc:x.2=true
  ·rw[if_pos hc]at h1 hd ⊢
   exact⟨h1,by omega⟩
  ·rw[if_neg hc]at h1 ⊢
   exact h1
theorem closed_any (w:World) {A:Option Addr}{n cp gt m ct:Nat}{ts:List TriD}(ht:RdTS w (some ⟨gt,0,none⟩) m ct ts) (hm:m≤10000) {ge ne ce:Nat}{L:List EdD}(hes:RdES w (some ⟨ge,0,none⟩) ne ce L) (hs:SrtE L) (hnl:ne≤1048576) {B:Option Addr}{k d:Nat}{list:List Int}(hl:RdI w B k d list) (hk:k≤1048576) (hE:EdHas ts L) :
  Calls Tryz.prog 44 #[.agg #[.slice A n cp,.slice (some ⟨gt,0,none⟩) m ct],.slice (some ⟨ge,0,none⟩) ne ce,.slice B k d] w fun e w'=>∃g,e=.returned (.slice (some ⟨g,0,none⟩) ne ne)∧OwU w' g ne (bgt (clF ts L (L.length+1) (mkA list L.length)))∧w.heap.size≤g∧Bl w w':=by
 replace hE:=Lib.hid hE
 replace hs:=Lib.hid hs
 have hlt:=Lib.hid ht.len
 have hne:=Lib.hid hes.len
 have hcpt:=ht.cap
 have hcpe:=hes.cap
 obtain⟨R,hR⟩:∃R,clF ts L (L.length+1) (mkA list L.length)=R:=⟨_,rfl⟩
 rw[hR]
 replace hR:=Lib.hid hR
 go_enter Tryz.func44,Tryz.ntmps44
 go_wp2_with fail
 refine calls_gen (fun W=>Bl w W∧Blk W w.heap.size 26 #[.slice A n cp,.slice (some ⟨gt,0,none⟩) m ct]) ⟨slc,bts⟩ ?_
 rintro W ⟨hbW,h3⟩
 have h3l:=h3.lt
 refine(markedOf_any _ (hl.bl hbW) hk ne hnl).mono ?_
 rintro e w1 ⟨gm,rfl,hU,hgm,hb1⟩
 have h3:=h3.bl hb1
 have hbW:=hbW.next hb1
 have h3g:w.heap.size<gm:=by omega
 clear hb1 hgm h3l
 go_wp2_with fail
 go_loopw [8] (fun v wr=>∃(f:Nat) (bl:List Bool) (c:Bool),v=.bool c∧Hid (bl.length=ne)∧OwU wr gm ne (bgt bl)∧Blk wr w.heap.size 26 #[.slice A n cp,.slice (some ⟨gt,0,none⟩) m ct]∧Bl w wr∧Hid (ClInv ts L R f bl c)) (fun v wr=>2*dnW wr gm ne+bTrue v)
 case atStart=>exact⟨ne+1,mkA list ne,true,rfl,Lib.hid (mkA_len _ _),hU,h3,hbW,Lib.hid (by unfold ClInv;rw[if_pos rfl];have h:=hR.out;rw[hne.out]at h;exact⟨h,by have h2:=dnB_le (mkA list ne);rw[mkA_len]at h2;omega⟩)⟩
 case round=>
  clear hU h3 hbW
  obtain⟨f,bl,c,rfl,hbl,hU,h3,hbw,hinv⟩:=hrel
  obtain⟨wj,rfl⟩:∃wj:World,wj=wr:=⟨_,rfl⟩
  cases c
  ·go_wp2_with fail
   go_ret
   have e:bl=R:=hinv.out
   exact⟨gm,rfl,by rw[←e];exact hU,by omega,hbw⟩
  ·have hdW:=Lib.hid (dnW_eq hU hbl.out)
   obtain⟨r0,r1⟩:=bx2 h3
   go_wp2_with fail
   clear r0 r1
   go_loopw [8,20] (fun s v wx=>∃(i:Nat) (x:List Bool × Bool),i≤m∧v=.int .i64 (i:Int)∧s=.bool x.2∧Hid (x=clTo ts L bl i)∧OwU wx gm ne (bgt x.1)∧Blk wx w.heap.size 26 #[.slice A n cp,.slice (some ⟨gt,0,none⟩) m ct]∧Bl w wx) (fun _ v _=>m-(intOf v).toNat)
   case atStart=>exact⟨0,(bl,false),by omega,rfl,rfl,Lib.hid rfl,hU,h3,hbw⟩
   case round=>
    clear hU h3 hbw
    obtain⟨i,x,hi,rfl,rfl,hx,hU,h3,hbx⟩:=hrel
    obtain⟨wx,rfl⟩:∃wx:World,wx=wr:=⟨_,rfl⟩
    by_cases him:i<m
    ·have hii:(i:Int)<(m:Int):=by omega
     have hnext:=Lib.hid (show clTo ts L bl (i+1)=clT L (pix ts i) x by rw[hx.out];rfl)
     have hxl:=Lib.hid (show x.1.length=ne by rw[hx.out,clTo_len];exact hbl.out)
     obtain⟨y0,y1,y2,y3,y4⟩:=trs_lit (RdTS.bl ht hbx) him
     obtain⟨hf0,hf1,hf2⟩:=hE.out i (by rw[hlt.out];exact him)
     obtain⟨t,ht_⟩:∃t,pix ts i=t:=⟨_,rfl⟩
     rw[ht_]at y0 y1 y2 y3 y4 hf0 hf1 hf2 hnext
     obtain⟨P0,hP0e⟩:∃P,posE (newE t.b t.c) L=P:=⟨_,rfl⟩
     obtain⟨P1,hP1e⟩:∃P,posE (newE t.a t.b) L=P:=⟨_,rfl⟩
     obtain⟨P2,hP2e⟩:∃P,posE (newE t.c t.a) L=P:=⟨_,rfl⟩
     have hP0:P0<ne:=by rw[←hP0e,←hne.out];exact fndE_lt hf0
     have hP1:P1<ne:=by rw[←hP1e,←hne.out];exact fndE_lt hf1
     have hP2:P2<ne:=by rw[←hP2e,←hne.out];exact fndE_lt hf2
     have hP0i:(P0:Int)<(ne:Int):=by omega
     have hP1i:(P1:Int)<(ne:Int):=by omega
     have hP2i:(P2:Int)<(ne:Int):=by omega
     replace hP0e:=Lib.hid hP0e
     replace hP1e:=Lib.hid hP1e
     replace hP2e:=Lib.hid hP2e
     replace hf0:=Lib.hid hf0
     replace hf1:=Lib.hid hf1
     replace hf2:=Lib.hid hf2
     clear ht_
     go_upto_region 8 with (fail)
     refine wp_gen (fun W2=>Bl wx W2∧∃g10,Blk W2 g10 58 #[.int .i64 t.a,.int .i64 t.b,.int .i64 t.c,.int .i64 t.region,.int .i64 t.level]∧g10=wx.heap.size) ⟨by exact slc,_,by exact bts,rfl⟩ ?_
     rintro W2 ⟨hb2,g10,h10,hg10⟩
     rw[←hg10]
     clear y0 y1 y2 y3 y4 hg10
     obtain⟨z0,z1,z2,z3,z4⟩:=bx5 h10
     obtain⟨W,rfl⟩:∃W:World,W=W2:=⟨_,rfl⟩
     go_wp2_with fail
     clear z0 z1 z2 z3 z4
     refine(edgeIndex_yes _ (hes.bl (hbx.next (show Bl wx _ from slc))) hs.out hnl t.b t.c hf0.out).mono ?_
     rw[hP0e.out]
     rintro e w0 ⟨rfl,hbq0⟩
     have hbv0:Bl wx w0:=slc
     have ux0:=(hU.bl hbv0).cell hP0
     have uz0:=(hU.bl hbv0).cell hP0
     have uf0:=(hU.bl hbv0).frozen P0
     have h10_0:=h10.bl hbq0
     clear hbq0
     obtain⟨z0,z1,z2,z3,z4⟩:=bx5 h10_0
     cases hq0:bgt x.1 P0
     ·rw[hq0]at ux0
      cases hq1:bgt x.1 P1
      ·cases hq2:bgt x.1 P2
       ·have hx2:=Lib.hid (hnext.out.trans (clT_no hP0e.out hP1e.out hP2e.out (.inr ⟨hq1,hq2⟩)))
        clear uz0
        go_wp2_with fail
        clear ux0 uf0 z0 z1 z2 z3 z4
        refine(edgeIndex_yes _ (hes.bl (hbx.next (show Bl wx _ from slc))) hs.out hnl t.a t.b hf1.out).mono ?_
        rw[hP1e.out]
        rintro e w1 ⟨rfl,hbq1⟩
        have hbv1:Bl wx w1:=slc
        have ux1:=(hU.bl hbv1).cell hP1
        have uz1:=(hU.bl hbv1).cell hP0
        have uf1:=(hU.bl hbv1).frozen P0
        have h10_1:=h10_0.bl hbq1
        clear hbq1
        obtain⟨z0,z1,z2,z3,z4⟩:=bx5 h10_1
        rw[hq1]at ux1
        clear uz1
        go_wp2_with fail
        clear ux1 uf1 z0 z1 z2 z3 z4
        refine(edgeIndex_yes _ (hes.bl (hbx.next (show Bl wx _ from slc))) hs.out hnl t.c t.a hf2.out).mono ?_
        rw[hP2e.out]
        rintro e w2 ⟨rfl,hbq2⟩
        have hbv2:Bl wx w2:=slc
        have ux2:=(hU.bl hbv2).cell hP2
        have uz2:=(hU.bl hbv2).cell hP0
        have uf2:=(hU.bl hbv2).frozen P0
        have h10_2:=h10_1.bl hbq2
        clear hbq2
        obtain⟨z0,z1,z2,z3,z4⟩:=bx5 h10_2
        rw[hq2]at ux2
        clear uz2 hq0 hq1 hq2
        go_wp2_with fail
        go_roundw
        case rel=>exact⟨i+1,x,by omega,by go_num,rfl,Lib.hid hx2.out.symm,hU.bl hbv2,h3.bl hbv2,hbx.next hbv2⟩
        case measure=>simp[intOf];omega
       ·have hx2:=Lib.hid (hnext.out.trans (clT_yes hP0e.out hP1e.out hP2e.out hq0 (.inr hq2)))
        clear uz0
        go_wp2_with fail
        clear ux0 uf0 z0 z1 z2 z3 z4
        refine(edgeIndex_yes _ (hes.bl (hbx.next (show Bl wx _ from slc))) hs.out hnl t.a t.b hf1.out).mono ?_
        rw[hP1e.out]
        rintro e w1 ⟨rfl,hbq1⟩
        have hbv1:Bl wx w1:=slc
        have ux1:=(hU.bl hbv1).cell hP1
        have uz1:=(hU.bl hbv1).cell hP0
        have uf1:=(hU.bl hbv1).frozen P0
        have h10_1:=h10_0.bl hbq1
        clear hbq1
        obtain⟨z0,z1,z2,z3,z4⟩:=bx5 h10_1
        rw[hq1]at ux1
        clear uz1
        go_wp2_with fail
        clear ux1 uf1 z0 z1 z2 z3 z4
        refine(edgeIndex_yes _ (hes.bl (hbx.next (show Bl wx _ from slc))) hs.out hnl t.c t.a hf2.out).mono ?_
        rw[hP2e.out]
        rintro e w2 ⟨rfl,hbq2⟩
        have hbv2:Bl wx w2:=slc
        have ux2:=(hU.bl hbv2).cell hP2
        have uz2:=(hU.bl hbv2).cell hP0
        have uf2:=(hU.bl hbv2).frozen P0
        have h10_2:=h10_1.bl hbq2
        clear hbq2
        obtain⟨z0,z1,z2,z3,z4⟩:=bx5 h10_2
        rw[hq2]at ux2
        rw[hq0]at uz2
        clear hq0 hq1 hq2
        go_wp2_with fail
        go_roundw
        case rel=>exact⟨i+1,(x.1.set P0 true,true),by omega,by go_num,rfl,Lib.hid hx2.out.symm,((hU.bl hbv2).set P0 true).congr (fun j hj=>bgt_set hxl.out true j hj),(h3.bl hbv2).far (by simp;omega) _,Bl.set (hbx.next hbv2) (by show w.heap.size≤gm;omega) _⟩
        case measure=>simp[intOf];omega
      ·have hx2:=Lib.hid (hnext.out.trans (clT_yes hP0e.out hP1e.out hP2e.out hq0 (.inl hq1)))
       clear uz0
       go_wp2_with fail
       clear ux0 uf0 z0 z1 z2 z3 z4
       refine(edgeIndex_yes _ (hes.bl (hbx.next (show Bl wx _ from slc))) hs.out hnl t.a t.b hf1.out).mono ?_
       rw[hP1e.out]
       rintro e w1 ⟨rfl,hbq1⟩
       have hbv1:Bl wx w1:=slc
       have ux1:=(hU.bl hbv1).cell hP1
       have uz1:=(hU.bl hbv1).cell hP0
       have uf1:=(hU.bl hbv1).frozen P0
       have h10_1:=h10_0.bl hbq1
       clear hbq1
       obtain⟨z0,z1,z2,z3,z4⟩:=bx5 h10_1
       rw[hq1]at ux1
       rw[hq0]at uz1
       clear hq0 hq1
       go_wp2_with fail
       go_roundw
       case rel=>exact⟨i+1,(x.1.set P0 true,true),by omega,by go_num,rfl,Lib.hid hx2.out.symm,((hU.bl hbv1).set P0 true).congr (fun j hj=>bgt_set hxl.out true j hj),(h3.bl hbv1).far (by simp;omega) _,Bl.set (hbx.next hbv1) (by show w.heap.size≤gm;omega) _⟩
       case measure=>simp[intOf];omega
     ·have hx2:=Lib.hid (hnext.out.trans (clT_no hP0e.out hP1e.out hP2e.out (.inl hq0)))
      rw[hq0]at ux0
      clear uz0 hq0
      go_wp2_with fail
      go_roundw
      case rel=>exact⟨i+1,x,by omega,by go_num,rfl,Lib.hid hx2.out.symm,hU.bl hbv0,h3.bl hbv0,hbx.next hbv0⟩
      case measure=>simp[intOf];omega
    ·obtain rfl:i=m:=by omega
     have hkm2:¬(i:Int)<(i:Int):=by omega
     have hx3:x=clTo ts L bl ts.length:=by rw[hlt.out];exact hx.out
     have hll:bl.length=L.length:=by rw[hne.out];exact hbl.out
     obtain⟨f2,hf2⟩:=hinv.out.step hx3 hll hE.out
     have hd:=clTo_dn hll hE.out ts.length (Nat.le_refl _)
     rw[←hx3]at hd
     replace hd:=Lib.hid hd
     replace hf2:=Lib.hid hf2
     have hxl:=Lib.hid (show x.1.length=ne by rw[hx.out,clTo_len];exact hbl.out)
     clear hx3 hll
     go_wp2_with fail
     go_roundw
     case rel=>exact⟨f2,x.1,x.2,rfl,hxl,hU,h3,hbx,hf2⟩
     case measure=>
      rw[dnW_eq hU hxl.out,hdW.out]
      have h:=hd.out
      cases hc:x.2
      ·rw[hc,if_neg (by decide)]at h
       show 2*dnB x.1+0<2*dnB bl+1
       omega
      ·rw[hc,if_pos rfl]at h
       show 2*dnB x.1+1<2*dnB bl+1
       omega
end
section
open Go.RowKit
def trV (t:TriD):Value:=.agg #[.int .i64 t.a,.int .i64 t.b,.int .i64 t.c,.int .i64 t.region,.int .i64 t.level]
theorem halves_any (w:World) (t:TriD) (m:Int) (h0 : -1000000≤t.level) (h1:t.level≤1000000) :
  Calls Tryz.prog 90 #[.agg #[.int .i64 t.a,.int .i64 t.b,.int .i64 t.c,.int .i64 t.region,.int .i64 t.level],.int .i64 m] w fun e w'=>e=.returned (.tuple #[trV (hvA t m),trV (hvB t m)])∧Bl w w':=by
 go_enter Tryz.func90,Tryz.ntmps90
 go_upto_region 1 with (fail)
 refine wp_gen (fun W=>Bl w W∧Blk W w.heap.size 58 #[.int .i64 t.a,.int .i64 t.b,.int .i64 t.c,.int .i64 t.region,.int .i64 t.level]∧Wk 5 58 (w.heap.size+1) W∧Wk 5 58 (w.heap.size+1+1) W) ⟨slc,bts,bts,bts⟩ ?_
 rintro W ⟨hbW,h2,h4,h5⟩
 have hz5:=h5.lt
 go_cut [6,7] (fun s6 s7 wx=>∃g6 g7:Nat,s6=.pointer (some ⟨g6,0,none⟩)∧s7=.pointer (some ⟨g7,0,none⟩)∧Blk wx g6 58 #[.int .i64 t.a,.int .i64 t.b,.int .i64 t.c,.int .i64 t.region,.int .i64 t.level]∧Blk wx g7 58 #[.int .i64 t.a,.int .i64 t.b,.int .i64 t.c,.int .i64 t.region,.int .i64 t.level]∧g6≠g7∧W.heap.size≤g6∧W.heap.size≤g7∧Bl W wx)
 case first=>
  go_region_held3 (fun w'=>(w'.cell? ⟨w.heap.size,0,none⟩=some (.int .i64 t.a)∧w'.cell? ⟨w.heap.size,1,none⟩=some (.int .i64 t.b)∧w'.cell? ⟨w.heap.size,2,none⟩=some (.int .i64 t.c)∧w'.cell? ⟨w.heap.size,3,none⟩=some (.int .i64 t.region)∧w'.cell? ⟨w.heap.size,4,none⟩=some (.int .i64 t.level))) (first|exact(bx5 (T:=58) (h2.bl slc))) (fail)
  ·go_wp2_with fail
   go_meet
   exact⟨W.heap.size,W.heap.size+1,rfl,rfl,by exact bts,by exact bts,by omega,by omega,by omega,slc⟩
  ·go_wp2_with fail
   go_meet
   exact⟨W.heap.size+1,W.heap.size,rfl,rfl,by exact bts,by exact bts,by omega,by omega,by omega,slc⟩
 case rest=>
  obtain⟨g6,g7,rfl,rfl,q6,q7,h67,hg6,hg7,hb8⟩:=hcut
  obtain⟨wp,rfl⟩:∃wp:World,wp=wc:=⟨_,rfl⟩
  have h2:=h2.bl hb8
  have h4:=h4.bl hb8
  have h5:=h5.bl hb8
  have hbW:=hbW.next hb8
  clear hb8
  obtain⟨y0,y1,y2,y3,y4⟩:=bx5 h2
  obtain⟨z0,z1,z2,z3,z4⟩:=bx5 q6
  have zf0:=q6.frozen 0
  have zf1:=q6.frozen 1
  have zf2:=q6.frozen 2
  have zf3:=q6.frozen 3
  have zf4:=q6.frozen 4
  go_upto_region 2 with (fail)
  go_cut [] (fun wx=>(∃cs,Blk wx g6 58 cs∧cs=#[.int .i64 m,.int .i64 t.a,.int .i64 t.b,.int .i64 t.region,.int .i64 (t.level+1)])∧Blk wx g7 58 #[.int .i64 t.a,.int .i64 t.b,.int .i64 t.c,.int .i64 t.region,.int .i64 t.level]∧Blk wx w.heap.size 58 #[.int .i64 t.a,.int .i64 t.b,.int .i64 t.c,.int .i64 t.region,.int .i64 t.level]∧Wk 5 58 (w.heap.size+1) wx∧Wk 5 58 (w.heap.size+1+1) wx∧Bl w wx)
  case first=>
   go_region
   all_goals go_wp2_with fail
   all_goals go_meet
   all_goals exact⟨⟨_,Blk.set_ (Blk.set_ (Blk.set_ (Blk.set_ (q6.bl (by exact slc)) _ _) _ _) _ _) _ _,by simp⟩,by exact bts,by exact bts,by exact bts,by exact bts,slc⟩
  case rest=>
   obtain⟨⟨cs,q6,rfl⟩,q7,h2,h4,h5,hbW⟩:=hcut
   obtain⟨wp,rfl⟩:∃wp:World,wp=wc:=⟨_,rfl⟩
   obtain⟨y0,y1,y2,y3,y4⟩:=bx5 h2
   obtain⟨z0,z1,z2,z3,z4⟩:=bx5 q7
   have zf0:=q7.frozen 0
   have zf1:=q7.frozen 1
   have zf2:=q7.frozen 2
   have zf3:=q7.frozen 3
   have zf4:=q7.frozen 4
   go_upto_region 3 with (fail)
   go_cut [] (fun wx=>Blk wx g6 58 #[.int .i64 m,.int .i64 t.a,.int .i64 t.b,.int .i64 t.region,.int .i64 (t.level+1)]∧(∃cs,Blk wx g7 58 cs∧cs=#[.int .i64 m,.int .i64 t.c,.int .i64 t.a,.int .i64 t.region,.int .i64 (t.level+1)])∧Wk 5 58 (w.heap.size+1) wx∧Wk 5 58 (w.heap.size+1+1) wx∧Bl w wx)
   case first=>
    go_region
    all_goals go_wp2_with fail
    all_goals go_meet
    all_goals exact⟨by exact bts,⟨_,Blk.set_ (Blk.set_ (Blk.set_ (Blk.set_ (q7.bl (by exact slc)) _ _) _ _) _ _) _ _,by simp⟩,by exact bts,by exact bts,slc⟩
   case rest=>
    obtain⟨q6,⟨cs,q7,rfl⟩,h4,h5,hbW⟩:=hcut
    obtain⟨wp,rfl⟩:∃wp:World,wp=wc:=⟨_,rfl⟩
    obtain⟨y0,y1,y2,y3,y4⟩:=bx5 q6
    obtain⟨z0,z1,z2,z3,z4⟩:=bx5 q7
    obtain⟨v0,x0⟩:=h4.val_ (i:=0) (by omega)
    obtain⟨v1,x1⟩:=h4.val_ (i:=1) (by omega)
    obtain⟨v2,x2⟩:=h4.val_ (i:=2) (by omega)
    obtain⟨v3,x3⟩:=h4.val_ (i:=3) (by omega)
    obtain⟨v4,x4⟩:=h4.val_ (i:=4) (by omega)
    obtain⟨u0,r0⟩:=h5.val_ (i:=0) (by omega)
    obtain⟨u1,r1⟩:=h5.val_ (i:=1) (by omega)
    obtain⟨u2,r2⟩:=h5.val_ (i:=2) (by omega)
    obtain⟨u3,r3⟩:=h5.val_ (i:=3) (by omega)
    obtain⟨u4,r4⟩:=h5.val_ (i:=4) (by omega)
    obtain⟨cs4,hB4,hc4⟩:=h4
    obtain⟨cs5,hB5,hc5⟩:=h5
    have hf0:=hB4.frozen 0
    have hf1:=hB4.frozen 1
    have hf2:=hB4.frozen 2
    have hf3:=hB4.frozen 3
    have hf4:=hB4.frozen 4
    have kf0:=hB5.frozen 0
    have kf1:=hB5.frozen 1
    have kf2:=hB5.frozen 2
    have kf3:=hB5.frozen 3
    have kf4:=hB5.frozen 4
    go_upto_region 4 with (fail)
    go_region
    all_goals go_wp2_with fail
    all_goals exact bodyPost_ret (v:=.tuple #[.agg #[.int .i64 m,.int .i64 t.a,.int .i64 t.b,.int .i64 t.region,.int .i64 (t.level+1)],.agg #[.int .i64 m,.int .i64 t.c,.int .i64 t.a,.int .i64 t.region,.int .i64 (t.level+1)]]) (by simp[results,Tryz.results90,go_sem,x0,x1,x2,x3,x4,r0,r1,r2,r3,r4]) rfl ⟨rfl,slc⟩
end
section
open Go.RowKit
theorem step_append_tris {W:World}{ops:Array Oper}{o:Oper}{a:Act}{K:Act→World→Prop}{Q:Exit→Act→World→Prop}{F:Prop}(hgd:o.guard=none) (s x:Operand)
  (ho:o.op=.call { callee:=.builtin .append,args:=#[s,x],argTypes:=#[24,24] }) (v:Value) (l:List TriD) (hs:a.eval s=v) {base:Nat}(hown:OwT base W v l) (hbase:base≤W.heap.size) (w0:World) (hb:Bl w0 W) (h0:w0.heap.size≤base)
  (g m c:Nat) (hx:a.eval x=.slice (some ⟨g,0,none⟩) m c) (ys:List TriD) (hr:RdTS W (some ⟨g,0,none⟩) m c ys) (hlen:l.length≤1048576) (hm:m≤1048576)
  (h:∀v' w',OwT base w' v' (l++ys)→(v'=.slice none 0 0↔v=.slice none 0 0∧m=0)→Bl w0 w'→(W.heap.size≤w'.heap.size∧∀g,g<W.heap.size→v.ownBlock≠some g→w'.heap[g]?=W.heap[g]?∧v'.ownBlock≠some g)→K (a.put o.dst v') w'):if Region.wanted o (yielded ops a.tmps)=true then Oper.wp Tryz.prog o a W K Q else F:=by
 have hw:Region.wanted o (yielded ops a.tmps)=true:=by simp[Region.wanted,hgd]
 rw[if_pos hw]
 obtain⟨i0,hi,hz0,hz1,hz2⟩:=info_parts info_tri'
 obtain ⟨v', w', hrun, g1, g2, g3, g4⟩ := run_append_own_at (P := Tryz.prog) W base 24 o.type 58 i0 _ 5 40 Tryz.underlying24 hi hz0 hz1 hz2 rfl (by omega) v l.length (l.flatMap encT) hown ⟨g, 0, none⟩ m c (ys.flatMap encT) (by rw [flatT_len, hr.len]) (by
  intro j u hu
  have hj:j < ys.length * 5:=by
   rcases Nat.lt_or_ge j (ys.length*5)with h|h
   ·exact h
   ·rw[List.getElem?_eq_none (by rw[flatT_len];exact h)]at hu;simp at hu
  have hl:=hr.len
  have hk:j / 5<ys.length:=by omega
  have e:j=j / 5*5+j % 5:=by omega
  rw[e,flatT_get ys hk (Nat.mod_lt _ (by omega))]at hu
  obtain⟨c0,c1,c2,c3,c4⟩:=trs_lit hr (show j / 5<m by omega)
  rw[Addr.add_lit,Nat.zero_add,e]
  have h5:j % 5<5:=Nat.mod_lt _ (by omega)
  generalize j % 5=q at hu h5 ⊢
  rcases(show q=0∨q=1∨q=2∨q=3∨q=4 by omega)with rfl|rfl|rfl|rfl|rfl
  ·exact c0.trans hu
  ·exact c1.trans hu
  ·exact c2.trans hu
  ·exact c3.trans hu
  ·exact c4.trans hu) (by
  intro u hu
  obtain⟨t,_,ht⟩:=List.mem_flatMap.1 hu
  exact encT_one ht) (by simp only[maxLen];omega) (by omega) hbase
 unfold Oper.wp execOp
 simp only[ho,resolve,invoke,builtin,Sem.run_bind,Sem.run_pure,Result.andThen_ok,List.map_toArray,List.map_cons,List.map_nil,hs,hx,hrun]
 have hws:=g2.size
 refine h v' w' ?_ g3 (hb.grown g2 fun k hk=>by have:=(hown.blk hk).1;omega) ⟨hws,fun b hb1 hb2=>⟨g2.block b hb1 (fun e=>hb2 e.symm),fun e=>?_⟩⟩
 ·unfold OwT
  rw[List.length_append,hr.len,List.flatMap_append]
  exact g1
 ·rcases g4 with g4|g4
  ·rw[g4]at e;exact hb2 e
  ·rw[g4]at e;injection e with e;omega
theorem OwT.one {base:Nat}(w:World) (t:TriD) (hb:base≤w.heap.size):OwT base (w.alloc (.cells #[.int .i64 t.a,.int .i64 t.b,.int .i64 t.c,.int .i64 t.region,.int .i64 t.level] 58)) (.slice (some ⟨w.heap.size,0,none⟩) 1 1) [t] :=
 ⟨rfl,.inr ⟨w.heap.size,1,#[.int .i64 t.a,.int .i64 t.b,.int .i64 t.c,.int .i64 t.region,.int .i64 t.level],rfl,hb,heap_alloc_new w _,Nat.le_refl _,by unfold maxLen;omega,rfl,rfl⟩⟩
theorem OwT.low' {base b1:Nat}{w:World}{v:Value}{l:List TriD}(h:OwT b1 w v l) (hb:base≤b1):OwT base w v l:=by
 refine⟨h.1,?_⟩
 rcases h.2 with h2 |⟨g,cap,cur,hv,hg,r⟩
 ·exact .inl h2
 ·exact .inr ⟨g,cap,cur,hv,Nat.le_trans hb hg,r⟩
def MidAt (w:World) (g5 g8:Nat) (L:List EdD) (md:List Int):Prop:=∃ge ne ce gm cm,w.cell? ⟨g5,0,none⟩=some (.slice (some ⟨ge,0,none⟩) ne ce)∧w.cell? ⟨g8,0,none⟩=some (.slice (some ⟨gm,0,none⟩) ne cm)∧g5<w.heap.size∧g8<w.heap.size∧RdES w (some ⟨ge,0,none⟩) ne ce L∧RdI w (some ⟨gm,0,none⟩) ne cm md∧ne≤1048576
theorem MidAt.bl {w W:World}{g5 g8:Nat}{L:List EdD}{md:List Int}(h:MidAt w g5 g8 L md) (hb:Bl w W):MidAt W g5 g8 L md:=by
 obtain⟨ge,ne,ce,gm,cm,h1,h2,h3,h4,h5,h6,h7⟩:=h
 exact⟨ge,ne,ce,gm,cm,(hb.cellOf (p:=⟨g5,0,none⟩) h3).trans h1,(hb.cellOf (p:=⟨g8,0,none⟩) h4).trans h2,Nat.lt_of_lt_of_le h3 hb.size,Nat.lt_of_lt_of_le h4 hb.size,h5.bl hb,h6.bl hb,h7⟩
theorem mid_any (w:World) {g5 g8:Nat}{L:List EdD}{md:List Int}(h:MidAt w g5 g8 L md) (hs:SrtE L) (a b:Int) :
  Calls Tryz.prog 75 #[.int .i64 a,.int .i64 b,.pointer (some ⟨g5,0,none⟩),.pointer (some ⟨g8,0,none⟩)] w fun e w'=>e=.returned (.int .i64 (midF L md a b))∧Bl w w':=by
 obtain⟨ge,ne,ce,gm,cm,x0,x1,hl5,hl8,hes,hmd,hnl⟩:=h
 replace hs:=Lib.hid hs
 by_cases hf:fndE (newE a b) L=true
 ·obtain⟨P,hP⟩:∃P,posE (newE a b) L=P:=⟨_,rfl⟩
  have hPn:P<ne:=by rw[←hP,←hes.len];exact fndE_lt hf
  have hPi:(P:Int)<(ne:Int):=by omega
  have hv:=Lib.hid (show midF L md a b=ix md P by unfold midF;rw[if_pos hf,hP])
  replace hf:=Lib.hid hf
  replace hP:=Lib.hid hP
  go_enter Tryz.func75,Tryz.ntmps75
  go_wp2_with fail
  refine(edgeIndex_yes _ hes hs.out hnl a b hf.out).mono ?_
  rw[hP.out]
  rintro e w1 ⟨rfl,hb1⟩
  have x1:w1.cell? ⟨g8,0,none⟩=some (.slice (some ⟨gm,0,none⟩) ne cm):=(hb1.cellOf (p:=⟨g8,0,none⟩) hl8).trans x1
  obtain⟨_,ee,hlt,hc⟩:=(RdI.bl hmd hb1).cells P hPn
  cases ee
  rw[Addr.add_lit,Nat.zero_add]at hc
  have hP0:(0:Int)≤(P:Int):=by omega
  clear x0
  go_wp2_with fail
  go_ret
  rw[hv.out]
  exact⟨rfl,hb1⟩
 ·have hf:=Bool.eq_false_iff.2 hf
  have hv:=Lib.hid (show midF L md a b=-1 by unfold midF;rw[hf];rfl)
  replace hf:=Lib.hid hf
  go_enter Tryz.func75,Tryz.ntmps75
  go_wp2_with fail
  refine(edgeIndex_no _ hes hs.out hnl a b hf.out).mono ?_
  rintro e w1 ⟨rfl,hb1⟩
  clear x0 x1
  go_wp2_with fail
  go_ret
  rw[hv.out]
  exact⟨rfl,hb1⟩
def TrisOw (w:World) (l:List TriD) (e:Ending) (w':World):Prop:=∃g c,e=.returned (.slice (some ⟨g,0,none⟩) l.length c)∧OwT w.heap.size w' (.slice (some ⟨g,0,none⟩) l.length c) l∧Bl w w'
theorem bsT_no {mid:Int→Int→Int}{d:Nat}{t:TriD}(h:mid t.b t.c<0):bsT mid d t=[t]:=by
 rcases d with _|d
 ·rfl
 ·unfold bsT;rw[if_pos h]
theorem bsT_yes {mid:Int→Int→Int}{d:Nat}{t:TriD}{x:Int}(e:mid t.b t.c=x) (h:¬x<0):bsT mid (d+1) t=bsT mid d (hvA t x)++bsT mid d (hvB t x):=by
 conv=>lhs;unfold bsT
 rw[e,if_neg h]
end
end Go.Proofs.YtmkcacgmnnlddaaGreat
