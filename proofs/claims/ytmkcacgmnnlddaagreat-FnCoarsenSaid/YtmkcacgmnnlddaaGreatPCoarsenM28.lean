/- Lemmas. -/
import Derived.Test.YtmkcacgmnnlddaaGreatRows
import Derived.Test.YtmkcacgmnnlddaaGreatPCoarsenM27
import Derived.Test.YtmkcacgmnnlddaaGreatPCoarsenM20
import Derived.Test.YtmkcacgmnnlddaaGreatPCoarsenM21
import Derived.Lib.MinMax
import Derived.Test.YtmkcacgmnnlddaaGreatPCoarsenM19
import Derived.Deep.Cut
import Derived.Deep.DeepCutAuto
namespace Go.Proofs.YtmkcacgmnnlddaaGreat
section
open Go.RowKit

/-- Flag i of a list of flags. -/
def bgt (bl:List Bool) (i:Nat):Bool:=bl.getD i false
theorem bgt_set {bl:List Bool}{n k:Nat}(hl:bl.length=n) (x:Bool) (i:Nat) (hi:i < n):(if i=k then x else bgt bl i)=bgt (bl.set k x) i:=by
  unfold bgt
  rw[List.getD_eq_getElem?_getD,List.getD_eq_getElem?_getD,List.getElem?_set]
  by_cases e:i=k
  · subst e
    rw[if_pos rfl,if_pos rfl,if_pos (by omega)]
    rfl
  · rw[if_neg e,if_neg (fun h=> e h.symm)]
theorem bgt_rep (n i:Nat):bgt (List.replicate n false) i=false:=by
  unfold bgt
  rw[List.getD_eq_getElem?_getD,List.getElem?_replicate]
  by_cases e:i < n
  · rw[if_pos e];rfl
  · rw[if_neg e];rfl
/-- The flags of the first k indices of a list. -/
def mkTo (l:List Int) (n:Nat):Nat→List Bool
  | 0=> List.replicate n false
  | k+1=> if 0≤ix l k∧ix l k≤(n:Int) - 1 then (mkTo l n k).set (ix l k).toNat true else mkTo l n k
def mkA (l:List Int) (n:Nat):List Bool:=mkTo l n l.length
theorem mkTo_len (l:List Int) (n:Nat):∀ k,(mkTo l n k).length=n
  | 0=> by simp[mkTo]
  | k+1=> by
    unfold mkTo
    split
    · rw[List.length_set,mkTo_len l n k]
    · exact mkTo_len l n k
theorem mkA_len (l:List Int) (n:Nat):(mkA l n).length=n:=mkTo_len l n _
/-- The marked indices among the first k. -/
def lsTo (bl:List Bool) (k:Nat):List Int:=((List.range k).filter (bgt bl)).map (fun i:Nat =>(i:Int))
def lsA (bl:List Bool):List Int:=lsTo bl bl.length
theorem lsTo_succ (bl:List Bool) (k:Nat):lsTo bl (k+1)=if bgt bl k=true then lsTo bl k ++ [(k:Int)] else lsTo bl k:=by
  unfold lsTo
  rw[List.range_succ,List.filter_append,List.map_append]
  by_cases h:bgt bl k=true
  · rw[if_pos h];simp[h]
  · rw[if_neg h];simp[h]
theorem lsTo_len (bl:List Bool) (k:Nat):(lsTo bl k).length≤k:=by
  unfold lsTo
  rw[List.length_map]
  exact Nat.le_trans (List.length_filter_le _ _) (by simp)
theorem ix_mem {l:List Int}{k:Nat}(h:k < l.length):ix l k ∈ l:=by
  unfold ix
  rw[List.getD_eq_getElem?_getD,List.getElem?_eq_getElem h]
  exact List.getElem_mem h
/-- The refinement edges of the first k triangles of a list. -/
def emTo (ts:List TriD) (L:List EdD) (ks:List Int):Nat→List Bool
  | 0=> List.replicate L.length false
  | k+1 =>(emTo ts L ks k).set (posE (newE (pix ts (ix ks k).toNat).b (pix ts (ix ks k).toNat).c) L) true
theorem emTo_len (ts:List TriD) (L:List EdD) (ks:List Int):∀ k,(emTo ts L ks k).length=L.length
  | 0=> by simp[emTo]
  | k+1=> by unfold emTo;rw[List.length_set,emTo_len ts L ks k]
def emB (ts:List TriD) (bl:List Bool):List Bool:=emTo ts (edL ts) (lsA bl) (lsA bl).length
def emA (ts:List TriD) (l:List Int):List Int:=lsA (emB ts (mkA l ts.length))
/-- All edges of the triangles are among the edges. -/
def EdHas (ts:List TriD) (L:List EdD):Prop:=∀ k,k < ts.length→fndE (newE (pix ts k).b (pix ts k).c) L=true∧fndE (newE (pix ts k).a (pix ts k).b) L=true∧fndE (newE (pix ts k).c (pix ts k).a) L=true
theorem fndE_lt {e:EdD}{L:List EdD}(h:fndE e L=true):posE e L < L.length:=by
  unfold fndE at h
  simp only[Bool.and_eq_true,decide_eq_true_eq] at h
  exact h.1
/-- One triangle of a round of the closure. -/
def clT (L:List EdD) (t:TriD) (x:List Bool × Bool):List Bool × Bool :=
  if bgt x.1 (posE (newE t.b t.c) L)=false∧(bgt x.1 (posE (newE t.a t.b) L)=true∨bgt x.1 (posE (newE t.c t.a) L)=true) then (x.1.set (posE (newE t.b t.c) L) true,true) else x
def clTo (ts:List TriD) (L:List EdD) (bl:List Bool):Nat→List Bool × Bool
  | 0 =>(bl,false)
  | k+1=> clT L (pix ts k) (clTo ts L bl k)
theorem clTo_len (ts:List TriD) (L:List EdD) (bl:List Bool):∀ k,(clTo ts L bl k).1.length=bl.length
  | 0=> rfl
  | k+1=> by
    have h:=clTo_len ts L bl k
    unfold clTo clT
    split
    · rw[List.length_set];exact h
    · exact h
/-- How many flags are down. -/
def dnB (bl:List Bool):Nat:=bl.count false
theorem dnB_set {bl:List Bool}{k:Nat}(hk:k < bl.length) (h:bgt bl k=false):dnB (bl.set k true)+1=dnB bl:=by
  unfold dnB
  have e:bl[k]=false:=by
    unfold bgt at h
    rwa [List.getD_eq_getElem?_getD,List.getElem?_eq_getElem hk] at h
  rw[List.count_set hk,e]
  have:0 < bl.count false:=List.count_pos_iff.2 (e ▸ List.getElem_mem hk)
  simp
  omega
theorem clTo_dn {ts:List TriD}{L:List EdD}{bl:List Bool}(hl:bl.length=L.length) (hE:EdHas ts L):∀ k,k≤ts.length→dnB (clTo ts L bl k).1+(if (clTo ts L bl k).2=true then 1 else 0)≤dnB bl
  | 0,_=> by simp[clTo]
  | k+1,hk=> by
    have h:=clTo_dn hl hE k (by omega)
    have hlen:=clTo_len ts L bl k
    unfold clTo clT
    split
    · rename_i hc
      have:=dnB_set (bl:=(clTo ts L bl k).1) (k:=posE (newE (pix ts k).b (pix ts k).c) L) (by rw[hlen,hl];exact fndE_lt (hE k (by omega)).1) hc.1
      show dnB ((clTo ts L bl k).1.set _ true)+1≤_
      omega
    · exact h
/-- The closure, with fuel. -/
def clF (ts:List TriD) (L:List EdD):Nat→List Bool→List Bool
  | 0,bl=> bl
  | f+1,bl=> if (clTo ts L bl ts.length).2=true then clF ts L f (clTo ts L bl ts.length).1 else (clTo ts L bl ts.length).1
theorem clF_len (ts:List TriD) (L:List EdD):∀ f bl,(clF ts L f bl).length=bl.length
  | 0,_=> rfl
  | f+1,bl=> by
    unfold clF
    split
    · rw[clF_len ts L f,clTo_len]
    · rw[clTo_len]
def clA (ts:List TriD) (l:List Int):List Bool:=clF ts (edL ts) ((edL ts).length+1) (mkA l (edL ts).length)
theorem dnB_le (bl:List Bool):dnB bl≤bl.length:=List.count_le_length
/-- The halves of a triangle. -/
def hvA (t:TriD) (m:Int):TriD:=⟨m,t.a,t.b,t.region,t.level+1⟩
def hvB (t:TriD) (m:Int):TriD:=⟨m,t.c,t.a,t.region,t.level+1⟩
def bsT (mid:Int→Int→Int):Nat→TriD→List TriD
  | 0,t=> [t]
  | d+1,t=> if mid t.b t.c < 0 then [t] else bsT mid d (hvA t (mid t.b t.c)) ++ bsT mid d (hvB t (mid t.b t.c))
theorem bsT_len (mid:Int→Int→Int):∀ d t,(bsT mid d t).length≤2 ^ d
  | 0,t=> by simp[bsT]
  | d+1,t=> by
    unfold bsT
    split
    · have:=Nat.two_pow_pos (d+1)
      simp
      omega
    · have h1:=bsT_len mid d (hvA t (mid t.b t.c))
      have h2:=bsT_len mid d (hvB t (mid t.b t.c))
      rw[List.length_append,Nat.pow_succ]
      omega
theorem bsT_pos (mid:Int→Int→Int):∀ d t,1≤(bsT mid d t).length
  | 0,t=> by simp[bsT]
  | d+1,t=> by
    unfold bsT
    split
    · simp
    · have h1:=bsT_pos mid d (hvA t (mid t.b t.c))
      rw[List.length_append]
      omega
/-- The midpoints' numbers of the first k edges, where n points stand already. -/
def mdTo (bl:List Bool) (n:Nat) (k:Nat):List Int:=(List.range k).map fun i=> if bgt bl i=true then ((n+(lsTo bl i).length:Nat):Int) else -1
def midF (L:List EdD) (md:List Int) (a b:Int):Int:=if fndE (newE a b) L=true then ix md (posE (newE a b) L) else -1
theorem mdTo_len (bl:List Bool) (n k:Nat):(mdTo bl n k).length=k:=by simp[mdTo]
def midQ (p q:Rat × Rat):Rat × Rat:=(mkRat 1 2 * (p.1+q.1),mkRat 1 2 * (p.2+q.2))
theorem midP_tp {p q:Rat × Rat}(hp:Sm2 p) (hq:Sm2 q):midP (tp p) (tp q)=tp (midQ p q):=by
  have h2:=half_sm
  have b2:B10 1 (mkRat 1 2):=B10.of h2.2 (by decide)
  have a:=B10.of (k:=2) hp.1 (by decide)
  have b:=B10.of (k:=2) hp.2 (by decide)
  have c:=B10.of (k:=2) hq.1 (by decide)
  have d:=B10.of (k:=2) hq.2 (by decide)
  unfold midP
  rw[h2.1]
  show sclP (toR (mkRat 1 2)) (addP (toP p.1 p.2) (toP q.1 q.2))=_
  rw[addP_b a b c d (by omega),sclP_b b2 (a.add c) (b.add d) (by omega)]
  rfl
def mdP (mq:MeQ) (L:List EdD) (i:Int):Rat × Rat:=midQ (mc mq (pix L i.toNat).a) (mc mq (pix L i.toNat).b)
/-- The points when the first k edges have been looked at. -/
def bpTo (mq:MeQ) (L:List EdD) (bl:List Bool) (k:Nat):List (Rat × Rat):=mq.pts ++ (lsTo bl k).map (mdP mq L)
theorem bpTo_len (mq:MeQ) (L:List EdD) (bl:List Bool) (k:Nat):(bpTo mq L bl k).length=mq.pts.length+(lsTo bl k).length:=by unfold bpTo;rw[List.length_append,List.length_map]
theorem bpTo_yes (mq:MeQ) (L:List EdD) {bl:List Bool}{k:Nat}(h:bgt bl k=true):bpTo mq L bl (k+1)=bpTo mq L bl k ++ [mdP mq L (k:Int)]:=by
  unfold bpTo
  rw[lsTo_succ,if_pos h,List.map_append,← List.append_assoc]
  rfl
theorem bpTo_no (mq:MeQ) (L:List EdD) {bl:List Bool}{k:Nat}(h:bgt bl k=false):bpTo mq L bl (k+1)=bpTo mq L bl k:=by
  unfold bpTo
  rw[lsTo_succ,if_neg (by rw[h];decide)]
/-- The triangles when the first k have been looked at. -/
def btTo (ts:List TriD) (mid:Int→Int→Int) (k:Nat):List TriD:=(List.range k).flatMap fun i=> bsT mid 2 (pix ts i)
theorem btTo_succ (ts:List TriD) (mid:Int→Int→Int) (k:Nat):btTo ts mid (k+1)=btTo ts mid k ++ bsT mid 2 (pix ts k):=by unfold btTo;rw[List.range_succ,List.flatMap_append];simp
theorem btTo_len (ts:List TriD) (mid:Int→Int→Int):∀ k,(btTo ts mid k).length≤4 * k
  | 0=> by simp[btTo]
  | k+1=> by
    rw[btTo_succ,List.length_append]
    have h1:=btTo_len ts mid k
    have h2:=bsT_len mid 2 (pix ts k)
    omega
theorem btTo_pos (ts:List TriD) (mid:Int→Int→Int):∀ k,k≤(btTo ts mid k).length
  | 0=> by simp
  | k+1=> by
    rw[btTo_succ,List.length_append]
    have h1:=btTo_pos ts mid k
    have h2:=bsT_pos mid 2 (pix ts k)
    omega
/-- The mesh in which the closure of marked edges is bisected. -/
def bisL (mq:MeQ) (L:List EdD) (bl:List Bool):MeQ:=⟨bpTo mq L bl L.length,btTo mq.tris (midF L (mdTo bl mq.pts.length L.length)) mq.tris.length⟩
def bisM (mq:MeQ) (l:List Int):MeQ:=bisL mq (edL mq.tris) (clA mq.tris l)
end

section
open Go.RowKit

theorem mkTo_yes {l:List Int}{n k:Nat}(h1:0≤ix l k) (h2:ix l k≤(n:Int) - 1):mkTo l n (k+1)=(mkTo l n k).set (ix l k).toNat true:=if_pos ⟨h1,h2⟩
theorem mkTo_no {l:List Int}{n k:Nat}(h:¬ (0≤ix l k∧ix l k≤(n:Int) - 1)):mkTo l n (k+1)=mkTo l n k:=if_neg h
theorem lsTo_yes {bl:List Bool}{k:Nat}(h:bgt bl k=true):lsTo bl (k+1)=lsTo bl k ++ [(k:Int)]:=by rw[lsTo_succ,if_pos h]
theorem lsTo_no {bl:List Bool}{k:Nat}(h:bgt bl k=false):lsTo bl (k+1)=lsTo bl k:=by rw[lsTo_succ,if_neg (by rw[h];decide)]
def IntsOw (w:World) (l:List Int) (en:Ending) (w':World):Prop:=∃ A n c,en=.returned (.slice A n c)∧OwI 3 w.heap.size w' A n c l∧Bl w w'

set_option maxRecDepth 100000 in
set_option maxHeartbeats 8000000 in
theorem markedOf_any (w:World) {A:Option Addr}{n c:Nat}{l:List Int}(h:RdI w A n c l) (hn:n≤1048576) (N:Nat) (hN:N≤1048576) :
    Calls Tryz.prog 68 #[.slice A n c,.int .i64 (N:Int)] w fun e w'=> ∃ g,e=.returned (.slice (some ⟨g,0,none⟩) N N)∧OwU w' g N (bgt (mkA l N))∧w.heap.size≤g∧Bl w w':=by
  have hl:=Lib.hid h.len
  obtain⟨N1,hN1⟩:∃ z:Int,(N:Int) - 1=z:=⟨_,rfl⟩
  have hb1 : -1≤N1:=by omega
  have hb2:N1≤1048576:=by omega
  go_enter Tryz.func68,Tryz.ntmps68
  have hmk:=fun W:World=> make_bools N hN W
  go_wp2_with fail
  refine wp_gen (fun W=> Bl w W∧∃ gu,OwU W gu N (bgt (mkTo l N 0))∧gu=w.heap.size) ⟨by exact slc,_,OwU.made w N _ (fun i=> bgt_rep N i),rfl⟩ ?_
  rintro W ⟨hbW,gu,hU,hgu⟩
  rw[← hgu]
  have hgu0:w.heap.size≤gu:=by omega
  clear hgu hmk
  go_loopw [12] (fun v wr=> ∃ k:Nat,k≤n∧v=.int .i64 (k:Int)∧OwU wr gu N (bgt (mkTo l N k))∧Bl w wr) (fun v _=> n - (intOf v).toNat)
  case atStart=> exact⟨0,by omega,rfl,hU,hbW⟩
  case round =>
    clear hU hbW
    obtain⟨k,hk,rfl,hU,hbw⟩:=hrel
    obtain⟨wo,rfl⟩:∃ wo:World,wo=wr:=⟨_,rfl⟩
    by_cases hkn:k < n
    · have hki:(k:Int) < (n:Int):=by omega
      obtain⟨ad,rfl,hlta,hca⟩:=(h.bl hbw).cells k hkn
      obtain⟨x,hx⟩:∃ x,ix l k=x:=⟨_,rfl⟩
      rw[hx] at hca
      by_cases hin:0≤x∧x≤N1
      · have hset:=Lib.hid (mkTo_yes (l:=l) (n:=N) (k:=k) (by omega) (by omega))
        rw[hx] at hset
        have hx:=Lib.hid hx;rename_i h_;clear h_
        go_wp2_with fail
        refine(within_yes _ hin.1 hin.2).mono ?_
        rintro e w1 ⟨rfl,q1,rfl⟩
        have hb6:=(Bl.refl wo).drewN q1
        obtain⟨w6,hw6⟩:∃ w6,wo.drewN q1=w6:=⟨_,rfl⟩
        rw[hw6] at hb6 ⊢
        clear hw6
        have hU:=hU.bl hb6
        have ux:=hU.cell (i:=x.toNat) (by omega)
        have uf:=hU.frozen x.toNat
        obtain⟨hx1,hx2⟩:=hin
        have hxN:x < (N:Int):=by omega
        clear hN1
        go_wp2_with fail
        go_roundw
        case rel=> exact⟨k+1,by omega,by go_num,(hU.set x.toNat true).congr (fun i hi=> by rw[hset.out];exact bgt_set (mkTo_len l N k) true i hi),Bl.set (hbw.next hb6) hgu0 _⟩
        case measure=> simp[intOf];omega
      · have hset:=Lib.hid (mkTo_no (l:=l) (n:=N) (k:=k) (by rw[hx];omega))
        have hx:=Lib.hid hx;rename_i h_;clear h_
        go_wp2_with fail
        refine(within_no _ hin).mono ?_
        rintro e w1 ⟨rfl,q1,rfl⟩
        have hb6:=(Bl.refl wo).drewN q1
        obtain⟨w6,hw6⟩:∃ w6,wo.drewN q1=w6:=⟨_,rfl⟩
        rw[hw6] at hb6 ⊢
        clear hw6 hN1 hin
        go_wp2_with fail
        go_roundw
        case rel=> exact⟨k+1,by omega,by go_num,by rw[hset.out];exact hU.bl hb6,hbw.next hb6⟩
        case measure=> simp[intOf];omega
    · obtain rfl:k=n:=by omega
      have hkm2:¬ (k:Int) < (k:Int):=by omega
      go_wp2_with fail
      go_ret
      exact⟨gu,rfl,by unfold mkA;rw[hl.out];exact hU,hgu0,hbw⟩
set_option maxRecDepth 100000 in
set_option maxHeartbeats 8000000 in
theorem listed_any (w:World) {g n c:Nat}{bl:List Bool}(hU:OwU w g n (bgt bl)) (hl:bl.length=n) (hn:n≤1048576) :
    Calls Tryz.prog 43 #[.slice (some ⟨g,0,none⟩) n c] w (IntsOw w (lsA bl)):=by
  have hl:=Lib.hid hl;rename_i h_;clear h_
  go_enter Tryz.func43,Tryz.ntmps43
  go_wp2_with fail
  refine wp_gen (fun W3=> Bl w W3∧∃ v c,OwL 3 w.heap.size W3 v (lsTo bl 0)∧v=.slice (some ⟨w.heap.size,0,none⟩) 0 c∧c=0) ⟨by exact slc,_,0,OwL.empty w (Nat.le_refl _) (by decide),rfl,rfl⟩ ?_
  rintro W3 ⟨hb3,v0,c0,hX,hv0,rfl⟩
  rw[← hv0]
  clear hv0
  go_loopw [3,9] (fun s v wr=> ∃ (i:Nat) (o:Value),i≤n∧v=.int .i64 (i:Int)∧o=s∧OwL 3 w.heap.size wr o (lsTo bl i)∧Bl w wr) (fun _ v _=> n - (intOf v).toNat)
  case atStart=> exact⟨0,v0,by omega,rfl,rfl,hX,hb3⟩
  case round =>
    clear hX hb3
    obtain⟨i,o,hi,rfl,rfl,hX,hbi⟩:=hrel
    obtain⟨wj,rfl⟩:∃ wj:World,wj=wr:=⟨_,rfl⟩
    by_cases hin:i < n
    · have hii:(i:Int) < (n:Int):=by omega
      have x0:=(hU.bl hbi).cell hin
      have hSl:=lsTo_len bl i
      obtain⟨q,hq⟩:∃ q,bgt bl i=q:=⟨_,rfl⟩
      rw[hq] at x0
      cases q
      · have hS2:=Lib.hid (lsTo_no hq)
        clear hq
        go_wp2_with fail
        go_roundw
        case rel=> exact⟨i+1,o,by omega,by go_num,rfl,by rw[hS2.out];exact hX,hbi⟩
        case measure=> simp[intOf];omega
      · have hS2:=Lib.hid (lsTo_yes hq)
        clear hq
        go_wp2_with ((refine wpList_append_intX (w0:=w) info_int Tryz.underlying28 rfl (.tmp 15) (.tmp 17) rfl _ (lsTo bl i) (by rfl) hX hbi 1 (by rfl) (by omega) ?_);intro vx7 w7 hX7 hb7 hoth)
        rw[← hS2.out] at hX7
        go_roundw
        case rel=> exact⟨i+1,vx7,by omega,by go_num,rfl,hX7,hb7⟩
        case measure=> simp[intOf];omega
    · obtain rfl:i=n:=by omega
      have hkm3:¬ (i:Int) < (i:Int):=by omega
      have hSl:=lsTo_len bl i
      obtain⟨B,c,rfl,hR⟩:=hX.own (by omega)
      go_wp2_with fail
      go_ret
      exact⟨B,_,c,rfl,by unfold lsA;rw[hl.out];exact hR,hbi⟩
end

section
open Go.RowKit

theorem RdTS.setLit {w:World}{g n c:Nat}{l:List TriD}(h:RdTS w (some ⟨g,0,none⟩) n c l) {p:Addr}(hp:g≠p.block) (u:Value):RdTS (w.setCell p u) (some ⟨g,0,none⟩) n c l:=by
  refine⟨h.len,h.cap,h.small,fun k hk=> ?_⟩
  obtain⟨ad,e,hlt,c0,c1,c2,c3,c4⟩:=h.cells k hk
  refine⟨ad,e,by simpa using hlt,?_⟩
  cases e
  rw[Addr.add_lit] at c0 c1 c2 c3 c4 ⊢
  have hne:∀ o,p≠(⟨g,o,none⟩:Addr):=fun o e=> hp (by rw[e])
  exact⟨by rw[World.cell?_setCell_other (h:=hne _)];exact c0,by rw[World.cell?_setCell_other (h:=hne _)];exact c1,by rw[World.cell?_setCell_other (h:=hne _)];exact c2,by rw[World.cell?_setCell_other (h:=hne _)];exact c3,by rw[World.cell?_setCell_other (h:=hne _)];exact c4⟩
end

section
open Go.RowKit

theorem clT_no {L:List EdD}{t:TriD}{x:List Bool × Bool}{P0 P1 P2:Nat}(e0:posE (newE t.b t.c) L=P0) (e1:posE (newE t.a t.b) L=P1) (e2:posE (newE t.c t.a) L=P2) (h:bgt x.1 P0=true∨(bgt x.1 P1=false∧bgt x.1 P2=false)):clT L t x=x:=by
  subst e0 e1 e2
  unfold clT
  refine if_neg fun hc=> ?_
  rcases h with h |⟨h1,h2⟩
  · rw[h] at hc;exact absurd hc.1 (by decide)
  · rw[h1,h2] at hc;rcases hc.2 with h | h <;> exact absurd h (by decide)
theorem clT_yes {L:List EdD}{t:TriD}{x:List Bool × Bool}{P0 P1 P2:Nat}(e0:posE (newE t.b t.c) L=P0) (e1:posE (newE t.a t.b) L=P1) (e2:posE (newE t.c t.a) L=P2) (h0:bgt x.1 P0=false) (h:bgt x.1 P1=true∨bgt x.1 P2=true):clT L t x=(x.1.set P0 true,true):=by
  subst e0 e1 e2
  unfold clT
  exact if_pos ⟨h0,h⟩
def isDn:Option Value→Bool
  | some (.bool false)=> true
  | _=> false
/-- How many of n flags in memory are down. -/
def dnW (w:World) (g n:Nat):Nat:=(List.range n).countP fun i=> isDn (w.cell? ⟨g,i,none⟩)
theorem dnW_eq {w:World}{g n:Nat}{bl:List Bool}(h:OwU w g n (bgt bl)) (hl:bl.length=n):dnW w g n=dnB bl:=by
  have e:bl=(List.range n).map (bgt bl):=by
    refine List.ext_getElem (by simp[hl]) fun i h1 h2=> ?_
    simp[bgt,h1]
  have h1:dnW w g n=(List.range n).countP fun i=> bgt bl i == false:=by
    unfold dnW
    refine List.countP_congr fun i hi=> ?_
    rw[h.cell (List.mem_range.1 hi)]
    cases bgt bl i <;> simp[isDn]
  rw[h1]
  unfold dnB
  conv=> rhs;rw[e]
  rw[List.count_eq_countP,List.countP_map]
  rfl
def bTrue:Value→Nat
  | .bool true=> 1
  | _=> 0
/-- What the outer loop of the closure knows: the rest of the work gives R. -/
def ClInv (ts:List TriD) (L:List EdD) (R:List Bool) (f:Nat) (bl:List Bool) (c:Bool):Prop:=if c=true then clF ts L f bl=R∧dnB bl < f else bl=R
theorem ClInv.step {ts:List TriD}{L:List EdD}{R:List Bool}{f:Nat}{bl:List Bool}{x:List Bool × Bool}(h:ClInv ts L R f bl true) (hx:x=clTo ts L bl ts.length) (hl:bl.length=L.length) (hE:EdHas ts L):∃ f',ClInv ts L R f' x.1 x.2:=by
  unfold ClInv at h
  rw[if_pos rfl] at h
  obtain⟨h1,h2⟩:=h
  have hd:=clTo_dn hl hE ts.length (Nat.le_refl _)
  rw[← hx] at hd
  rcases f with _ | f
  · omega
  · unfold clF at h1
    rw[← hx] at h1
    refine⟨f,?_⟩
    unfold ClInv
    by_cases hc:x.2=true
    · rw[if_pos hc] at h1 hd ⊢
      exact⟨h1,by omega⟩
    · rw[if_neg hc] at h1 ⊢
      exact h1
end

section
open Go.RowKit

def trV (t:TriD):Value:=.agg #[.int .i64 t.a,.int .i64 t.b,.int .i64 t.c,.int .i64 t.region,.int .i64 t.level]
set_option maxRecDepth 100000 in
set_option maxHeartbeats 32000000 in
theorem halves_any (w:World) (t:TriD) (m:Int) (h0 : -1000000≤t.level) (h1:t.level≤1000000) :
    Calls Tryz.prog 90 #[.agg #[.int .i64 t.a,.int .i64 t.b,.int .i64 t.c,.int .i64 t.region,.int .i64 t.level],.int .i64 m] w fun e w'=> e=.returned (.tuple #[trV (hvA t m),trV (hvB t m)])∧Bl w w':=by
  go_enter Tryz.func90,Tryz.ntmps90
  go_upto_region 1 with (fail)
  refine wp_gen (fun W=> Bl w W∧Blk W w.heap.size 58 #[.int .i64 t.a,.int .i64 t.b,.int .i64 t.c,.int .i64 t.region,.int .i64 t.level]∧Wk 5 58 (w.heap.size+1) W∧Wk 5 58 (w.heap.size+1+1) W) ⟨slc,bts,bts,bts⟩ ?_
  rintro W ⟨hbW,h2,h4,h5⟩
  have hz5:=h5.lt
  go_cut [6,7] (fun s6 s7 wx=> ∃ g6 g7:Nat,s6=.pointer (some ⟨g6,0,none⟩)∧s7=.pointer (some ⟨g7,0,none⟩)∧Blk wx g6 58 #[.int .i64 t.a,.int .i64 t.b,.int .i64 t.c,.int .i64 t.region,.int .i64 t.level]∧Blk wx g7 58 #[.int .i64 t.a,.int .i64 t.b,.int .i64 t.c,.int .i64 t.region,.int .i64 t.level]∧g6≠g7∧W.heap.size≤g6∧W.heap.size≤g7∧Bl W wx)
  case first =>
    go_region_held3 (fun w' =>(w'.cell? ⟨w.heap.size,0,none⟩=some (.int .i64 t.a)∧w'.cell? ⟨w.heap.size,1,none⟩=some (.int .i64 t.b)∧w'.cell? ⟨w.heap.size,2,none⟩=some (.int .i64 t.c)∧w'.cell? ⟨w.heap.size,3,none⟩=some (.int .i64 t.region)∧w'.cell? ⟨w.heap.size,4,none⟩=some (.int .i64 t.level))) (first | exact(bx5 (T:=58) (h2.bl slc))) (fail)
    · go_wp2_with fail
      go_meet
      exact⟨W.heap.size,W.heap.size+1,rfl,rfl,by exact bts,by exact bts,by omega,by omega,by omega,slc⟩
    · go_wp2_with fail
      go_meet
      exact⟨W.heap.size+1,W.heap.size,rfl,rfl,by exact bts,by exact bts,by omega,by omega,by omega,slc⟩
  case rest =>
    obtain⟨g6,g7,rfl,rfl,q6,q7,h67,hg6,hg7,hb8⟩:=hcut
    obtain⟨wp,rfl⟩:∃ wp:World,wp=wc:=⟨_,rfl⟩
    have h2:=h2.bl hb8
    have h4:=h4.bl hb8
    have h5:=h5.bl hb8
    have hbW:=hbW.next hb8
    clear hb8
    obtain⟨y0,y1,y2,y3,y4⟩:=bx5 h2
    obtain⟨z0,z1,z2,z3,z4⟩:=bx5 q6
    have zf0:=q6.frozen 0
    have zf1:=q6.frozen 1
    have zf2:=q6.frozen 2
    have zf3:=q6.frozen 3
    have zf4:=q6.frozen 4
    go_upto_region 2 with (fail)
    go_cut [] (fun wx =>(∃ cs,Blk wx g6 58 cs∧cs=#[.int .i64 m,.int .i64 t.a,.int .i64 t.b,.int .i64 t.region,.int .i64 (t.level+1)])∧Blk wx g7 58 #[.int .i64 t.a,.int .i64 t.b,.int .i64 t.c,.int .i64 t.region,.int .i64 t.level]∧Blk wx w.heap.size 58 #[.int .i64 t.a,.int .i64 t.b,.int .i64 t.c,.int .i64 t.region,.int .i64 t.level]∧Wk 5 58 (w.heap.size+1) wx∧Wk 5 58 (w.heap.size+1+1) wx∧Bl w wx)
    case first =>
      go_region
      all_goals go_wp2_with fail
      all_goals go_meet
      all_goals exact⟨⟨_,Blk.set_ (Blk.set_ (Blk.set_ (Blk.set_ (q6.bl (by exact slc)) _ _) _ _) _ _) _ _,by simp⟩,by exact bts,by exact bts,by exact bts,by exact bts,slc⟩
    case rest =>
      obtain⟨⟨cs,q6,rfl⟩,q7,h2,h4,h5,hbW⟩:=hcut
      obtain⟨wp,rfl⟩:∃ wp:World,wp=wc:=⟨_,rfl⟩
      obtain⟨y0,y1,y2,y3,y4⟩:=bx5 h2
      obtain⟨z0,z1,z2,z3,z4⟩:=bx5 q7
      have zf0:=q7.frozen 0
      have zf1:=q7.frozen 1
      have zf2:=q7.frozen 2
      have zf3:=q7.frozen 3
      have zf4:=q7.frozen 4
      go_upto_region 3 with (fail)
      go_cut [] (fun wx=> Blk wx g6 58 #[.int .i64 m,.int .i64 t.a,.int .i64 t.b,.int .i64 t.region,.int .i64 (t.level+1)]∧(∃ cs,Blk wx g7 58 cs∧cs=#[.int .i64 m,.int .i64 t.c,.int .i64 t.a,.int .i64 t.region,.int .i64 (t.level+1)])∧Wk 5 58 (w.heap.size+1) wx∧Wk 5 58 (w.heap.size+1+1) wx∧Bl w wx)
      case first =>
        go_region
        all_goals go_wp2_with fail
        all_goals go_meet
        all_goals exact⟨by exact bts,⟨_,Blk.set_ (Blk.set_ (Blk.set_ (Blk.set_ (q7.bl (by exact slc)) _ _) _ _) _ _) _ _,by simp⟩,by exact bts,by exact bts,slc⟩
      case rest =>
        obtain⟨q6,⟨cs,q7,rfl⟩,h4,h5,hbW⟩:=hcut
        obtain⟨wp,rfl⟩:∃ wp:World,wp=wc:=⟨_,rfl⟩
        obtain⟨y0,y1,y2,y3,y4⟩:=bx5 q6
        obtain⟨z0,z1,z2,z3,z4⟩:=bx5 q7
        obtain⟨v0,x0⟩:=h4.val_ (i:=0) (by omega)
        obtain⟨v1,x1⟩:=h4.val_ (i:=1) (by omega)
        obtain⟨v2,x2⟩:=h4.val_ (i:=2) (by omega)
        obtain⟨v3,x3⟩:=h4.val_ (i:=3) (by omega)
        obtain⟨v4,x4⟩:=h4.val_ (i:=4) (by omega)
        obtain⟨u0,r0⟩:=h5.val_ (i:=0) (by omega)
        obtain⟨u1,r1⟩:=h5.val_ (i:=1) (by omega)
        obtain⟨u2,r2⟩:=h5.val_ (i:=2) (by omega)
        obtain⟨u3,r3⟩:=h5.val_ (i:=3) (by omega)
        obtain⟨u4,r4⟩:=h5.val_ (i:=4) (by omega)
        obtain⟨cs4,hB4,hc4⟩:=h4
        obtain⟨cs5,hB5,hc5⟩:=h5
        have hf0:=hB4.frozen 0
        have hf1:=hB4.frozen 1
        have hf2:=hB4.frozen 2
        have hf3:=hB4.frozen 3
        have hf4:=hB4.frozen 4
        have kf0:=hB5.frozen 0
        have kf1:=hB5.frozen 1
        have kf2:=hB5.frozen 2
        have kf3:=hB5.frozen 3
        have kf4:=hB5.frozen 4
        go_upto_region 4 with (fail)
        go_region
        all_goals go_wp2_with fail
        all_goals exact bodyPost_ret (v:=.tuple #[.agg #[.int .i64 m,.int .i64 t.a,.int .i64 t.b,.int .i64 t.region,.int .i64 (t.level+1)],.agg #[.int .i64 m,.int .i64 t.c,.int .i64 t.a,.int .i64 t.region,.int .i64 (t.level+1)]]) (by simp[results,Tryz.results90,go_sem,x0,x1,x2,x3,x4,r0,r1,r2,r3,r4]) rfl ⟨rfl,slc⟩
end

section
open Go.RowKit

theorem step_append_tris {W:World}{ops:Array Oper}{o:Oper}{a:Act}{K:Act→World→Prop}{Q:Exit→Act→World→Prop}{F:Prop}(hgd:o.guard=none) (s x:Operand)
    (ho:o.op=.call { callee:=.builtin .append,args:=#[s,x],argTypes:=#[24,24] }) (v:Value) (l:List TriD) (hs:a.eval s=v) {base:Nat}(hown:OwT base W v l) (hbase:base≤W.heap.size) (w0:World) (hb:Bl w0 W) (h0:w0.heap.size≤base)
    (g m c:Nat) (hx:a.eval x=.slice (some ⟨g,0,none⟩) m c) (ys:List TriD) (hr:RdTS W (some ⟨g,0,none⟩) m c ys) (hlen:l.length≤1048576) (hm:m≤1048576)
    (h:∀ v' w',OwT base w' v' (l ++ ys)→(v'=.slice none 0 0↔v=.slice none 0 0∧m=0)→Bl w0 w'→(W.heap.size≤w'.heap.size∧∀ g,g < W.heap.size→v.ownBlock≠some g→w'.heap[g]?=W.heap[g]?∧v'.ownBlock≠some g)→K (a.put o.dst v') w'):if Region.wanted o (yielded ops a.tmps)=true then Oper.wp Tryz.prog o a W K Q else F:=by
  have hw:Region.wanted o (yielded ops a.tmps)=true:=by simp[Region.wanted,hgd]
  rw[if_pos hw]
  obtain⟨i0,hi,hz0,hz1,hz2⟩:=info_parts info_tri'
  obtain ⟨v', w', hrun, g1, g2, g3, g4⟩ := run_append_own_at (P := Tryz.prog) W base 24 o.type 58 i0 _ 5 40 Tryz.underlying24 hi hz0 hz1 hz2 rfl (by omega) v l.length (l.flatMap encT) hown ⟨g, 0, none⟩ m c (ys.flatMap encT) (by rw [flatT_len, hr.len]) (by
    intro j u hu
    have hj:j < ys.length * 5:=by
      rcases Nat.lt_or_ge j (ys.length * 5) with h | h
      · exact h
      · rw[List.getElem?_eq_none (by rw[flatT_len];exact h)] at hu;simp at hu
    have hl:=hr.len
    have hk:j / 5 < ys.length:=by omega
    have e:j=j / 5 * 5+j % 5:=by omega
    rw[e,flatT_get ys hk (Nat.mod_lt _ (by omega))] at hu
    obtain⟨c0,c1,c2,c3,c4⟩:=trs_lit hr (show j / 5 < m by omega)
    rw[Addr.add_lit,Nat.zero_add,e]
    have h5:j % 5 < 5:=Nat.mod_lt _ (by omega)
    generalize j % 5=q at hu h5 ⊢
    rcases(show q=0∨q=1∨q=2∨q=3∨q=4 by omega) with rfl | rfl | rfl | rfl | rfl
    · exact c0.trans hu
    · exact c1.trans hu
    · exact c2.trans hu
    · exact c3.trans hu
    · exact c4.trans hu) (by
    intro u hu
    obtain⟨t,_,ht⟩:=List.mem_flatMap.1 hu
    exact encT_one ht) (by simp only[maxLen];omega) (by omega) hbase
  unfold Oper.wp execOp
  simp only[ho,resolve,invoke,builtin,Sem.run_bind,Sem.run_pure,Result.andThen_ok,List.map_toArray,List.map_cons,List.map_nil,hs,hx,hrun]
  have hws:=g2.size
  refine h v' w' ?_ g3 (hb.grown g2 fun k hk=> by have:=(hown.blk hk).1;omega) ⟨hws,fun b hb1 hb2 =>⟨g2.block b hb1 (fun e=> hb2 e.symm),fun e=> ?_⟩⟩
  · unfold OwT
    rw[List.length_append,hr.len,List.flatMap_append]
    exact g1
  · rcases g4 with g4 | g4
    · rw[g4] at e;exact hb2 e
    · rw[g4] at e;injection e with e;omega
theorem OwT.one {base:Nat}(w:World) (t:TriD) (hb:base≤w.heap.size):OwT base (w.alloc (.cells #[.int .i64 t.a,.int .i64 t.b,.int .i64 t.c,.int .i64 t.region,.int .i64 t.level] 58)) (.slice (some ⟨w.heap.size,0,none⟩) 1 1) [t] :=
  ⟨rfl,.inr ⟨w.heap.size,1,#[.int .i64 t.a,.int .i64 t.b,.int .i64 t.c,.int .i64 t.region,.int .i64 t.level],rfl,hb,heap_alloc_new w _,Nat.le_refl _,by unfold maxLen;omega,rfl,rfl⟩⟩
theorem OwT.low' {base b1:Nat}{w:World}{v:Value}{l:List TriD}(h:OwT b1 w v l) (hb:base≤b1):OwT base w v l:=by
  refine⟨h.1,?_⟩
  rcases h.2 with h2 |⟨g,cap,cur,hv,hg,r⟩
  · exact .inl h2
  · exact .inr ⟨g,cap,cur,hv,Nat.le_trans hb hg,r⟩
/-- What the function that tells midpoints has captured. -/
def MidAt (w:World) (g5 g8:Nat) (L:List EdD) (md:List Int):Prop:=∃ ge ne ce gm cm,w.cell? ⟨g5,0,none⟩=some (.slice (some ⟨ge,0,none⟩) ne ce)∧w.cell? ⟨g8,0,none⟩=some (.slice (some ⟨gm,0,none⟩) ne cm)∧g5 < w.heap.size∧g8 < w.heap.size∧RdES w (some ⟨ge,0,none⟩) ne ce L∧RdI w (some ⟨gm,0,none⟩) ne cm md∧ne≤1048576
theorem MidAt.bl {w W:World}{g5 g8:Nat}{L:List EdD}{md:List Int}(h:MidAt w g5 g8 L md) (hb:Bl w W):MidAt W g5 g8 L md:=by
  obtain⟨ge,ne,ce,gm,cm,h1,h2,h3,h4,h5,h6,h7⟩:=h
  exact⟨ge,ne,ce,gm,cm,(hb.cellOf (p:=⟨g5,0,none⟩) h3).trans h1,(hb.cellOf (p:=⟨g8,0,none⟩) h4).trans h2,Nat.lt_of_lt_of_le h3 hb.size,Nat.lt_of_lt_of_le h4 hb.size,h5.bl hb,h6.bl hb,h7⟩
theorem bsT_no {mid:Int→Int→Int}{d:Nat}{t:TriD}(h:mid t.b t.c < 0):bsT mid d t=[t]:=by
  rcases d with _ | d
  · rfl
  · unfold bsT;rw[if_pos h]
theorem bsT_yes {mid:Int→Int→Int}{d:Nat}{t:TriD}{x:Int}(e:mid t.b t.c=x) (h:¬ x < 0):bsT mid (d+1) t=bsT mid d (hvA t x) ++ bsT mid d (hvB t x):=by
  conv=> lhs;unfold bsT
  rw[e,if_neg h]
end

section
open Go.RowKit
end

section
open Go.RowKit

theorem Ow.ob' {T:TypeId}{w W:World}{g b:Nat}{l:List Int}(h:Ow T w g l) (ho:Ob [b] w W) (hg:g≠b):Ow T W g l:=(ho.block g (Ow.lt h) (by simpa using hg)).trans h
theorem Ow.oth {T:TypeId}{g:Nat}{v v':Value}{W w':World}{l:List Int}(h:Ow T W g l) (ho:∀ g,g < W.heap.size→v.ownBlock≠Option.some g→w'.heap[g]?=W.heap[g]?∧v'.ownBlock≠Option.some g) (hn:v.ownBlock≠some g):Ow T w' g l:=(ho g (Ow.lt h) hn).1.trans h
theorem Ob.app {g7:Nat}{W3 W7 W w8:World}(hO:Ob [g7] W7 W) (h3:Bl W3 W7) (h8:Bl W3 w8) (hs:W.heap.size≤w8.heap.size) (hB:∀ b,b < W7.heap.size→w8.heap[b]?=W.heap[b]?):Ob [g7] W7 w8 :=
  ⟨(Below.os h8).trans (Below.os h3).symm,(Below.tape h8).trans (Below.tape h3).symm,(Below.output h8).trans (Below.output h3).symm,Nat.le_trans hO.size hs,fun b hb hn =>(hB b hb).trans (hO.block b hb hn)⟩
theorem OwT.nil0 {base:Nat}{w:World}{l:List TriD}(h:OwT base w (.slice none 0 0) l):l=[]:=by
  rcases h.2 with ⟨_,h0⟩ |⟨g,cap,cur,hv,_⟩
  · exact List.length_eq_zero_iff.1 h0
  · cases hv
theorem bpM_yes (mq:MeQ) (L:List EdD) {bl:List Bool}{k:Nat}(h:bgt bl k=true):(bpTo mq L bl k).map tp ++ [tp (mdP mq L (k:Int))]=(bpTo mq L bl (k+1)).map tp:=by rw[bpTo_yes mq L h,List.map_append];rfl
/-- The mesh lies in memory that was made since block b0. -/
def MeOw (b0:Nat) (w:World) (v:Value) (mq:MeQ):Prop:=MeAt w v mq∧∀ w',w.heap.size≤w'.heap.size→(∀ b,b0≤b→b < w.heap.size→w'.heap[b]?=w.heap[b]?)→MeAt w' v mq
section
variable {b0 b1:Nat}{w W:World}{v:Value}{mq:MeQ}
theorem MeOw.bl (h:MeOw b0 w v mq) (hb:Bl w W):MeOw b0 W v mq :=
  ⟨h.1.bl hb,fun w' hs hk=> h.2 w' (Nat.le_trans hb.size hs) fun b h1 h2 =>(hk b h1 (Nat.lt_of_lt_of_le h2 hb.size)).trans (Below.block hb b h2)⟩
theorem MeOw.low (h:MeOw b1 w v mq) (hb:b0≤b1):MeOw b0 w v mq:=⟨h.1,fun w' hs hk=> h.2 w' hs fun b h1 h2=> hk b (Nat.le_trans hb h1) h2⟩
theorem MeOw.setLow (h:MeOw b0 w v mq) {q:Addr}(hq:q.block < b0) (u:Value):MeOw b0 (w.setCell q u) v mq :=
  ⟨h.2 _ (by simp) fun b h1 _=> Below.heap_setCell w q u b (by omega),fun w' hs hk=> h.2 w' (by simpa using hs) fun b h1 h2 =>(hk b h1 (by simpa using h2)).trans (Below.heap_setCell w q u b (by omega))⟩
theorem MeOw.of {N:List Nat→Prop}{lo gp n c gt m ct:Nat}(hrow:RowP N lo w.heap.size w (.slice (some ⟨gp,0,none⟩) n c) (mq.pts.map tp)) (hT:OwT b1 w (.slice (some ⟨gt,0,none⟩) m ct) mq.tris) (h1:b0≤lo) (h2:b0≤b1) (hlen:mq.pts.length≤1048576):MeOw b0 w (.agg #[.slice (some ⟨gp,0,none⟩) n c,.slice (some ⟨gt,0,none⟩) m ct]) mq:=by
  have key:∀ w',w.heap.size≤w'.heap.size→(∀ b,b0≤b→b < w.heap.size→w'.heap[b]?=w.heap[b]?)→MeAt w' (.agg #[.slice (some ⟨gp,0,none⟩) n c,.slice (some ⟨gt,0,none⟩) m ct]) mq:=fun w' hs hk=> by
    have hr:=RowG.keep (ptIn_keep 3) hrow hs fun b h3 h4=> hk b (Nat.le_trans h1 h3) h4
    have ht:=hT.keep fun g e=> hk g (Nat.le_trans h2 (hT.blk e).1) (hT.blk e).2
    obtain⟨gt',ct',e,_,hTr,_,_⟩:=ht.lit (fun e=> by cases e)
    injection e with e1 e2 e3
    injection e1 with e1
    injection e1 with e1
    subst e1 e3
    rw[← e2] at hTr
    exact⟨gp,n,c,gt,m,ct,rfl,RowP.rdN hr (by rw[List.length_map];exact hlen),hTr⟩
  exact⟨key w (Nat.le_refl _) fun _ _ _=> rfl,key⟩
end
/-- A mesh in memory of one's own. -/
def MeRes (w:World) (mq:MeQ) (e:Ending) (w':World):Prop:=∃ v2,e=.returned v2∧MeOw w.heap.size w' v2 mq∧Bl w w'
end

section
open Go.RowKit
end

section
open Go.RowKit

def okM (m:MeQ):Bool :=
  decide ((3≤m.pts.length∧m.pts.length≤40)∧1≤m.tris.length∧m.tris.length≤48) && (okP m.pts && (decide (PlB m.pts.length (plXs m.pts m.pts.length) (plYs m.pts m.pts.length)) && okT m.pts.length (plXs m.pts m.pts.length) (plYs m.pts m.pts.length) m.tris))
theorem okM_ok {m:MeQ}(h:okM m=true):MeshOk m:=by
  unfold okM at h
  simp only[Bool.and_eq_true,decide_eq_true_eq] at h
  obtain⟨h1,h2,h3,h4⟩:=h
  exact MeshOk.of m.pts.length _ _ rfl rfl rfl h1 h2 h3 h4
def csQ0 (r:Int):MeQ:=⟨[(0,0),(2,0),(2,2),(0,2),(1,1)],[⟨4,0,1,0,0⟩,⟨4,1,2,0,0⟩,⟨4,2,3,1,0⟩,⟨4,3,0,r,0⟩]⟩
def csQ1 (r:Int):MeQ:=⟨[(0,0),(2,0),(2,1),(0,2)],[⟨1,2,0,0,0⟩,⟨3,0,2,r,0⟩]⟩
def csQ2:MeQ:=⟨[(0,0),(1,0),(2,0),(2,1),(1,1),(1,2),(0,2),(0,1)],[⟨1,4,0,0,0⟩,⟨7,0,4,0,0⟩,⟨3,4,2,0,0⟩,⟨1,2,4,1,0⟩,⟨7,4,6,0,0⟩,⟨5,6,4,2,0⟩]⟩
def csL:List MeQ:=[csQ0 0,csQ0 1,csQ1 0,csQ1 1,csQ1 2,csQ2]
instance (ts:List TriD) (L:List EdD):Decidable (EdHas ts L):=by unfold EdHas;infer_instance
/-- What makes a mesh fit to be bisected. -/
def okF (m:MeQ):Bool:=okM m && (decide (EdHas m.tris (edL m.tris)) && decide (∀ k,k < m.pts.length→Sm2 (pix m.pts k)))
end

section
open Go.RowKit

/-- A mesh that the program calls valid and can bisect. -/
structure FitM (m:MeQ):Prop where
  ok:MeshOk m
  has:EdHas m.tris (edL m.tris)
  sm:∀ k,k < m.pts.length→Sm2 (pix m.pts k)
theorem fit_of {m:MeQ}(h:okF m=true):FitM m:=by
  unfold okF at h
  simp only[Bool.and_eq_true,decide_eq_true_eq] at h
  exact⟨okM_ok h.1,h.2.1,h.2.2⟩
theorem emA_len {ts:List TriD}(l:List Int) (h:ts.length≤48):(emA ts l).length≤200:=by
  have h1:=lsTo_len (emB ts (mkA l ts.length)) (emB ts (mkA l ts.length)).length
  have h2:(emB ts (mkA l ts.length)).length=(edL ts).length:=emTo_len _ _ _ _
  have h3:=edTo_len ts ts.length
  show (lsTo (emB ts (mkA l ts.length)) (emB ts (mkA l ts.length)).length).length≤200
  have h4:(edL ts).length≤3 * ts.length:=h3
  omega
end

section
open Go.RowKit
instance:Inhabited MeQ:=⟨⟨[],[]⟩⟩
end

section
open Go.RowKit
end

end Go.Proofs.YtmkcacgmnnlddaaGreat
