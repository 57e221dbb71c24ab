import Derived.Test.YtmkcacgmnnlddaaGreatRows
import Derived.Test.YtmkcacgmnnlddaaGreatPClosureM21
import Derived.Lib.AppendZerosOnto
import Derived.Lib.Overlaps
import Derived.Laws.CopyRow
import Derived.Laws.NewBlocks
import Derived.Laws.Externs
import Derived.Laws.CopyOwn
import Derived.Shelf.RegionOpenPlain
import Derived.Test.YtmkcacgmnnlddaaGreatPClosureM17
namespace Go.Proofs.YtmkcacgmnnlddaaGreat
set_option maxRecDepth 100000
set_option maxHeartbeats 16000000
section
open Go.RowKit
theorem run_copy_rowK {P:Program}(w:World) (dT sT ty elem:TypeId) (g o dLen dCap:Nat) (a:Addr) (sLen sCap:Nat) (cur:Array Value) (t:TypeId) (cs:List Value) (K k:Nat)
  (hu:P.underlying dT=some (.slice elem)) (hs:(P.info? elem).map (·.size)=some K) (hg:w.heap[g]?=some (.cells cur t (0,0))) (hk:k=Nat.min sLen dLen) (hn:cs.length=k*K)
  (hsrc:∀j v,cs[j]?=some v→w.cell? (a.add j)=some v) (hfit:o+cs.length≤cur.size) (h1:∀v∈cs,v.oneCell'=true) :
  (Builtin.copy_ #[dT, sT] ty #[.slice (some ⟨g, o, none⟩) dLen dCap, .slice (some a) sLen sCap]).run P w =
   .ok (goInt k) (w.setRow g (cur.toList.take o++cs++cur.toList.drop (o+cs.length)).toArray):=by
 have hl:=run_loadCells_list (P:=P) w a cs hsrc
 have hst:=run_storeCells_at P g o t cs 0 cur w hg (by simpa using hfit) h1
 cases hq:P.info? elem with
 | none=>simp[hq]at hs
 | some i=>
  have hi:i.size=K:=by simpa [hq]using hs
  simp[Builtin.copy_,run_underlying hu,Builtin.lenOf,Builtin.firstCells,sizeOf,typeInfo,hq,hi,←hk,←hn,hl,hst]
theorem wp_copy_runE {P:Program}(w:World) {o:Oper}{a:Act}{K:Act→World→Prop}{Q:Exit→Act→World→Prop}(d s:Operand) (t t':TypeId)
  (ho:o.op=.call { callee:=.builtin .copy,args:=#[d,s],argTypes:=#[t,t'] }) (v u:Value) (hd:a.eval d=v) (hs:a.eval s=u) {v':Value}{w':World}
  (hr:(Builtin.copy_ #[t,t'] o.type #[v,u]).run P w=.ok v' w') (h:K (a.put o.dst v') w'):o.wp P a w K Q:=by
 unfold Oper.wp execOp
 simp only[ho,resolve,invoke,builtin,Sem.run_bind,Sem.run_pure,Result.andThen_ok,List.map_toArray,List.map_cons,List.map_nil,hd,hs,hr]
 exact h
theorem wpList_copy_runE {P:Program}(w:World) {ops:Array Oper}{rest:List Oper}{o:Oper}{a:Act}{Q:Exit→Act→World→Prop}(hgd:o.guard=none) (d s:Operand) (t t':TypeId)
  (ho:o.op=.call { callee:=.builtin .copy,args:=#[d,s],argTypes:=#[t,t'] }) (v u:Value) (hd:a.eval d=v) (hs:a.eval s=u) {v':Value}{w':World}
  (hr:(Builtin.copy_ #[t,t'] o.type #[v,u]).run P w=.ok v' w') (h:wpList P ops Q rest (a.put o.dst v') w'):wpList P ops Q (o::rest) a w :=
 wpList_plain hgd fun _ hK=>wp_copy_runE w d s t t' ho v u hd hs hr (hK _ _ h)
theorem step_copy_runE {P:Program}{ops:Array Oper}{o:Oper}{a:Act}{w:World}{K:Act→World→Prop}{Q:Exit→Act→World→Prop}{E:Prop}
  (hg:o.guard=none) (d x:Operand) (dT sT:TypeId) (hop:o.op=Op.call { callee:=Callee.builtin Builtin.copy,args:=#[d,x],argTypes:=#[dT,sT] })
  (v u:Value) (hd:a.eval d=v) (hx:a.eval x=u) {v':Value}{w':World}(hr:(Builtin.copy_ #[dT,sT] o.type #[v,u]).run P w=.ok v' w') (hK:K (a.put o.dst v') w') :
  if Region.wanted o (yielded ops a.tmps)=true then Oper.wp P o a w K Q else E:=by
 have hw:Region.wanted o (yielded ops a.tmps)=true:=by simp[Region.wanted,hg]
 rw[if_pos hw]
 unfold Oper.wp
 simp[execOp,hop,resolve,invoke,builtin,hd,hx,hr,Result.andThen]
 exact hK
def encE (e:EdD):List Value:=[.int .i64 e.a,.int .i64 e.b,.int .i64 e.l,.int .i64 e.r]
theorem info_edge:(Tryz.prog.info? 114).map (fun i=>(i.zero,i.size,i.bytes))=some (some (.agg #[.int .i64 0,.int .i64 0,.int .i64 0,.int .i64 0]),4,32):=by kernel_rfl
def OwEd (base:Nat) (w:World) (v:Value) (l:List EdD):Prop:=w.ownsRow base 114 4 v l.length (l.flatMap encE)
def InsW (base:Nat) (w:World) (v v':Value) (w':World):Prop :=
 Below base w w'∧w.heap.size≤w'.heap.size∧(∀g,g<w.heap.size→v.ownBlock≠Option.some g→w'.heap[g]?=w.heap[g]?∧v'.ownBlock≠Option.some g)∧v'≠.slice none 0 0
def InsRes (base:Nat) (w:World) (v:Value) (l:List EdD) (en:Ending) (w':World):Prop:=∃v',en=.returned v'∧OwEd base w' v' l∧InsW base w v v' w'
theorem enc_one (e:EdD):∀u∈encE e,u.oneCell'=true:=by
 intro u hu
 simp[encE]at hu
 rcases hu with rfl|rfl|rfl|rfl <;> rfl
theorem flatE_len:∀l:List EdD,(l.flatMap encE).length=l.length*4
 | []=>rfl
 | x::xs=>by
  rw[List.flatMap_cons,List.length_append,flatE_len xs,List.length_cons]
  have:(encE x).length=4:=rfl
  omega
theorem insW_of {base n:Nat}{w w':World}{v v':Value}{xs:List Value}(hown:w.ownsRow base 114 4 v n xs) (hbase:base≤w.heap.size) (g2:w.grownBy w' v.ownBlock) (h3:v'≠.slice none 0 0) (g4:v'.ownBlock=v.ownBlock∨v'.ownBlock=some w.heap.size):InsW base w v v' w':=by
 refine⟨Below.grown (Below.refl base w) g2 hbase (fun k e=>(World.ownsRow.lt hown k e).1),g2.size,fun g hg hn=>⟨g2.block g hg (fun e=>hn e.symm),fun e=>?_⟩,h3⟩
 rcases g4 with g4|g4
 ·exact hn (by rw[←g4];exact e)
 ·rw[g4]at e
  injection e with e
  omega
theorem owE_app {base n:Nat}{w:World}{v:Value}{l:List EdD}{e:EdD}(hn:l.length=n) (h:w.ownsRow base 114 4 v (n+1) (l.flatMap encE++encE e)):OwEd base w v (l++[e]):=by
 unfold OwEd
 rw[List.length_append,List.flatMap_append,hn]
 simpa using h
theorem Insert_end (w:World) {base b c gv:Nat}{l:List EdD}{e:EdD}(hown:OwEd base w (.slice (some ⟨b,0,none⟩) l.length c) l) (hv:Blk w gv 114 #[.int .i64 e.a,.int .i64 e.b,.int .i64 e.l,.int .i64 e.r]) (hbase:base≤w.heap.size) (hlen:l.length≤100000) :
  Calls Tryz.prog 73 #[.slice (some ⟨b,0,none⟩) l.length c,.int .i64 (l.length:Int),.slice (some ⟨gv,0,none⟩) 1 1] w (InsRes base w (.slice (some ⟨b,0,none⟩) l.length c) (l++[e])):=by
 obtain⟨i0,hi0,hz0,hz1,hz2⟩:=info_parts info_edge
 have hcap:l.length≤c:=by
  rcases hown.2 with ⟨h,_⟩ |⟨g,cap,cur,h,_,_,hn,_⟩
  ·cases h
  ·injection h with _ _ h;omega
 have hc63:c≤9223372036854775807:=by
  rcases hown.2 with ⟨h,_⟩ |⟨g,cap,cur,h,_,_,hn,hm,_⟩
  ·cases h
  ·injection h with _ _ h;unfold maxLen at hm;omega
 obtain⟨n,hn⟩:∃n,l.length=n:=⟨_,rfl⟩
 have hn2:=Lib.hid hn
 rw[hn]at hown hlen hcap ⊢
 have hown:w.ownsRow base 114 4 (.slice (some ⟨b,0,none⟩) n c) n (l.flatMap encE):=by have h:=hown;unfold OwEd at h;rw[hn]at h;exact h
 clear hn
 have hci:(n:Int)≤(c:Int):=by omega
 by_cases hcn:c=n
 ·obtain rfl:n=c:=hcn.symm
  go_enter Tryz.func73,Tryz.ntmps73
  go_wp2_with (refine wpList_append_own_at _ rfl (.tmp 23) (.tmp 24) 41 rfl base 114 i0 _ 4 32 Tryz.underlying41 hi0 hz0 hz1 hz2 (by rfl) (by omega) _ n (l.flatMap encE) (by rfl) hown ⟨gv,0,none⟩ 1 1 (encE e) (by rfl) rfl (World.news_of_block hv) (enc_one e) (by unfold maxLen;omega) (by omega) hbase ?_;intro v' w' g1 g2 g3 g4)
  go_ret
  exact⟨v',rfl,owE_app hn2.out g1,insW_of hown hbase g2 (fun e=>by have:=(g3.1 e).2;omega) g4⟩
 ·go_enter Tryz.func73,Tryz.ntmps73
  go_wp2_with (refine wpList_append_own_at _ rfl (.tmp 23) (.tmp 24) 41 rfl base 114 i0 _ 4 32 Tryz.underlying41 hi0 hz0 hz1 hz2 (by rfl) (by omega) _ n (l.flatMap encE) (by rfl) hown ⟨gv,0,none⟩ 1 1 (encE e) (by rfl) rfl (World.news_of_block hv) (enc_one e) (by unfold maxLen;omega) (by omega) hbase ?_;intro v' w' g1 g2 g3 g4)
  go_ret
  exact⟨v',rfl,owE_app hn2.out g1,insW_of hown hbase g2 (fun e=>by have:=(g3.1 e).2;omega) g4⟩
end
section
open Go.RowKit
theorem flat_take (l:List EdD):∀i,(l.take i).flatMap encE=(l.flatMap encE).take (i*4):=by
 induction l with
 | nil=>intro i;simp
 | cons x xs ih=>
  intro i
  rcases i with _|i
  ·simp
  ·rw[List.take_succ_cons,List.flatMap_cons,List.flatMap_cons,ih i]
   have h4:(encE x).length=4:=rfl
   rw[List.take_append,List.take_of_length_le (l:=encE x) (by omega),h4,show (i+1)*4-4=i*4 by omega]
theorem flat_drop (l:List EdD):∀i,(l.drop i).flatMap encE=(l.flatMap encE).drop (i*4):=by
 induction l with
 | nil=>intro i;simp
 | cons x xs ih=>
  intro i
  rcases i with _|i
  ·simp
  ·rw[List.drop_succ_cons,List.flatMap_cons,ih i]
   have h4:(encE x).length=4:=rfl
   rw[List.drop_append,List.drop_of_length_le (l:=encE x) (by omega),h4,show (i+1)*4-4=i*4 by omega,List.nil_append]
theorem flat_one (l:List EdD):∀u∈l.flatMap encE,u.oneCell'=true:=by
 intro u hu
 obtain⟨x,_,hx⟩:=List.mem_flatMap.1 hu
 exact enc_one x u hx
theorem row_cell {w:World}{b:Nat}{cur:Array Value}{T:TypeId}{cs:List Value}{k:Nat}(hg:w.heap[b]?=some (.cells cur T (0,0))) (ht:cur.toList.take k=cs) {j:Nat}{u:Value}(h:cs[j]?=some u):w.cell? ⟨b,j,none⟩=some u:=by
 rw[cell_of_row w b j cur T (0,0) hg]
 rw[←ht,List.getElem?_take]at h
 split at h
 ·rw[←Array.getElem?_toList];exact h
 ·cases h
theorem setRow_get {w:World}{b:Nat}{cur cur':Array Value}{T:TypeId}(hg:w.heap[b]?=some (.cells cur T (0,0))):(w.setRow b cur').heap[b]?=some (.cells cur' T (0,0)):=setRow_heap w b _ _ T _ hg
theorem ins_list {cur cs vs:List Value}{i n c:Nat}(h1:cur.length=c*4) (h2:cur.take (n*4)=cs) (h3:cs.length=n*4) (hi:i<n) (hc:n+1≤c) (hv:vs.length=4) :
  ((cur.take ((i+1)*4)++cs.drop (i*4)++cur.drop ((i+1)*4+(cs.drop (i*4)).length)).take (i*4)++vs++(cur.take ((i+1)*4)++cs.drop (i*4)++cur.drop ((i+1)*4+(cs.drop (i*4)).length)).drop (i*4+vs.length)).take ((n+1)*4)=cs.take (i*4)++(vs++cs.drop (i*4)):=by
 have e1:(cur.take ((i+1) * 4) ++ cs.drop (i * 4) ++ cur.drop ((i+1) * 4+(cs.drop (i * 4)).length)).take (i * 4)=cs.take (i * 4):=by
  rw[List.append_assoc,List.take_append_of_le_length (by rw[List.length_take];omega),List.take_take,←h2,List.take_take]
  congr 1
  omega
 have e2:(cur.take ((i+1) * 4) ++ cs.drop (i * 4) ++ cur.drop ((i+1) * 4+(cs.drop (i * 4)).length)).drop (i * 4+vs.length)=cs.drop (i * 4) ++ cur.drop ((i+1) * 4+(cs.drop (i * 4)).length):=by
  rw[List.append_assoc]
  have hl:(cur.take ((i+1)*4)).length=i*4+vs.length:=by rw[List.length_take];omega
  rw[←hl,List.drop_left]
 rw[e1,e2,List.append_assoc,←List.append_assoc vs,←List.append_assoc (cs.take (i*4))]
 have hl:(cs.take (i*4)++(vs++cs.drop (i*4))).length=(n+1)*4:=by simp[h3,hv];omega
 rw[←hl,List.take_left]
theorem Insert_room (w:World) {base b c gv i:Nat}{l:List EdD}{e:EdD}(hown:OwEd base w (.slice (some ⟨b,0,none⟩) l.length c) l) (hv:Blk w gv 114 #[.int .i64 e.a,.int .i64 e.b,.int .i64 e.l,.int .i64 e.r]) (hne:gv≠b) (hlen:l.length≤100000) (hi:i<l.length) (hroom:l.length+1≤c) :
  Calls Tryz.prog 73 #[.slice (some ⟨b,0,none⟩) l.length c,.int .i64 (i:Int),.slice (some ⟨gv,0,none⟩) 1 1] w (InsRes base w (.slice (some ⟨b,0,none⟩) l.length c) (l.take i++e::l.drop i)):=by
 have hsz4:(Tryz.prog.info? 114).map (·.size)=some 4:=by
  obtain⟨i0,hi0,hz0,hz1,hz2⟩:=info_parts info_edge
  rw[hi0];simp[hz1]
 obtain⟨hcl,⟨h,_⟩ |⟨g,cap,cur,h,hg,hh,hnc,hm,hcs,htk⟩⟩:=id hown
 ·cases h
 injection h with q1 q2 q3
 injection q1 with q1
 injection q1 with q1
 subst q1 q3
 have hc63:c≤9223372036854775807:=by unfold maxLen at hm;omega
 obtain⟨cs,hcse⟩:∃cs,l.flatMap encE=cs:=⟨_,rfl⟩
 have hone:=flat_one l
 have hft:=flat_take l i
 have hfd:=flat_drop l i
 have hbl:=heap_lt hh
 rw[hcse]at hcl htk hone hft hfd
 obtain⟨n,hn⟩:∃n,l.length=n:=⟨_,rfl⟩
 have hn2:=Lib.hid hn
 rw[hn]at hlen hi hroom hcl hnc htk ⊢
 clear hn hown hcse
 have hdl:(cs.drop (i*4)).length=(n-i)*4:=by rw[List.length_drop,hcl];omega
 have hov:∀lb cb,(callFunc 102 #[.slice (some ⟨gv,0,none⟩) 1 1,.slice (some ⟨b,(i+1)*4,none⟩) lb cb]).run Tryz.prog w=.ok (.value (.bool false)) w:=fun lb cb=>by
  rw[run_callFunc_extern Tryz.func102 (by kernel_rfl) (by kernel_rfl) (by kernel_rfl) (e:=Extern.SlicesOverlaps.overlaps #[41,41] #[4]) (by kernel_rfl),
   Go.Lib.run_overlaps_apart w 41 4 114 Tryz.underlying41 4 Tryz.sizeOf114 ⟨gv,0,none⟩ ⟨b,(i+1)*4,none⟩ 1 1 lb cb hne 114 114 4 (c*4) (by rw[World.shape?,hv];rfl) (by rw[World.shape?,hh];show some (_,cur.size)=_;rw[hcs]) (by omega) (by rw[World.frozen?,hv];rfl) (by rw[World.frozen?,hv];rfl)]
  rfl
 have hcu1:cur.toList.length=c*4:=by simp[hcs]
 have hcp1:∀ty dc sc,(Builtin.copy_ #[41,41] ty #[.slice (some ⟨b,(i+1)*4,none⟩) (n-i) dc,.slice (some ⟨b,i*4,none⟩) (n+1-i) sc]).run Tryz.prog w.drew=.ok (goInt ((n-i:Nat):Int)) (w.drew.setRow b (cur.toList.take ((i+1)*4)++cs.drop (i*4)++cur.toList.drop ((i+1)*4+(cs.drop (i*4)).length)).toArray):=fun ty dc sc=>
  run_copy_rowK w.drew _ _ ty 114 b ((i + 1) * 4) (n - i) dc ⟨b, i * 4, none⟩ (n + 1 - i) sc cur 114 (cs.drop (i * 4)) 4 (n - i) Tryz.underlying41 hsz4 hh (by simp only [Nat.min_def]; split <;> omega) hdl
   (fun j u hj=>by rw[Addr.add_lit];rw[List.getElem?_drop]at hj;exact row_cell (w:=w.drew) hh htk hj) (by rw[hdl,hcs];omega) (fun u hu=>hone u (List.mem_of_mem_drop hu))
 have hb2:¬(c=i+1):=by omega
 have hb4:¬(c=i):=by omega
 have hz2:¬((i:Int)=(n:Int)):=by omega
 have hb5:(n:Int)+1≤(c:Int):=by omega
 have hii:(i:Int)<(n:Int):=by omega
 have hw1:IntKind.i64.wrap ((i:Int)+1)=(i:Int)+1:=by rw[IntKind.wrap_i64];omega
 have hb1:(0:Int)≤(i:Int)+1:=by omega
 have hin:i≤n:=by omega
 have mixed:Tryz.prog.follows Departure.mixedOrders=true:=by kernel_rfl
 have htn:((i:Int)+1).toNat=i+1:=by omega
 have hb3:(i:Int)≤(n:Int)+1:=by omega
 obtain⟨cur1,hc1⟩:∃cur1,(cur.toList.take ((i+1)*4)++cs.drop (i*4)++cur.toList.drop ((i+1)*4+(cs.drop (i*4)).length)).toArray=cur1:=⟨_,rfl⟩
 rw[hc1]at hcp1
 have hs1:cur1.size=c*4:=by rw[←hc1];simp[hcu1,hdl];omega
 have hh1:(w.drew.setRow b cur1).heap[b]?=some (.cells cur1 114 (0,0)):=setRow_get (w:=w.drew) hh
 have hvv:∀ j u,(encE e)[j]?=some u→(w.drew.setRow b cur1).cell? ⟨gv,0+j,none⟩=some u:=by
  intro j u hj
  have hv2:Blk (w.drew.setRow b cur1) gv 114 #[.int .i64 e.a,.int .i64 e.b,.int .i64 e.l,.int .i64 e.r]:=(setRow_other w.drew b gv cur1 hne).trans hv
  rw[Nat.zero_add,hv2.cell j,←hj,←Array.getElem?_toList]
  rfl
 obtain⟨cur2,hc2⟩:∃cur2,(cur1.toList.take (i*4)++encE e++cur1.toList.drop (i*4+(encE e).length)).toArray=cur2:=⟨_,rfl⟩
 have hcp2:∀ty dc,(Builtin.copy_ #[41,41] ty #[.slice (some ⟨b,i*4,none⟩) (n+1-i) dc,.slice (some ⟨gv,0,none⟩) 1 1]).run Tryz.prog (w.drew.setRow b cur1)=.ok (goInt ((1:Nat):Int)) ((w.drew.setRow b cur1).setRow b cur2):=fun ty dc=>by
  rw[←hc2]
  exact run_copy_rowK (w.drew.setRow b cur1) _ _ ty 114 b (i * 4) (n + 1 - i) dc ⟨gv, 0, none⟩ 1 1 cur1 114 (encE e) 4 1 Tryz.underlying41 hsz4 hh1 (by simp only [Nat.min_def]; split <;> omega) rfl
   (fun j u hj=>by rw[Addr.add_lit];exact hvv j u hj) (by rw[hs1];show i*4+4≤c*4;omega) (enc_one e)
 have hc2h:=Lib.hid hc2
 have hc1h:=Lib.hid hc1
 clear hc1 hc2
 go_enter Tryz.func73,Tryz.ntmps73
 go_wp2_with (simp only[hov])
 clear hov
 go_region_law_o (refine step_copy_runE rfl _ _ 41 41 rfl _ _ (by simp[Act.eval,Act.put]) (by simp[Act.eval,Act.put]) (hcp1 _ _ _) ?_)
 go_wp2_with (at_builtin;refine wpList_copy_runE _ rfl _ _ 41 41 rfl _ _ rfl rfl (hcp2 _ _) ?_)
 go_ret
 have hc1:=hc1h.out
 have hc2:=hc2h.out
 have hv4:(encE e).length=4:=rfl
 have hlen2:(l.take i++e::l.drop i).length=n+1:=by simp[hn2.out];omega
 have hfl:(l.take i++e::l.drop i).flatMap encE=cs.take (i*4)++(encE e++cs.drop (i*4)):=by rw[List.flatMap_append,List.flatMap_cons,hft,hfd]
 have hct:cur1.toList=cur.toList.take ((i+1)*4)++cs.drop (i*4)++cur.toList.drop ((i+1)*4+(cs.drop (i*4)).length):=by rw[←hc1]
 have hh2:=setRow_get (cur':=cur2) hh1
 refine⟨_,rfl,?_,?_,?_,fun g hgs hn=>⟨?_,?_⟩,fun e=>by cases e⟩
 ·unfold OwEd World.ownsRow
  rw[hlen2,hfl]
  refine⟨?_,.inr ⟨b,c,_,rfl,hg,hh2,by omega,hm,?_,?_⟩⟩
  ·simp[hcl];omega
  ·rw[←hc2];simp[hs1];omega
  ·rw[←hc2,hct]
   exact ins_list hcu1 htk hcl hi hroom hv4
 ·exact below_setRow (below_setRow (Below.drew (Below.refl base w)) hg _) hg _
 ·simp[World.setRow]
 ·have hgb:g≠b:=fun e=>hn (by rw[e];rfl)
  rw[setRow_other _ _ _ _ hgb,setRow_other _ _ _ _ hgb]
  rfl
 ·intro e
  exact hn e
end
section
open Go.RowKit
theorem ins_list2 {row cs vs:List Value}{i n:Nat}(h2:row.take (i*4)=cs.take (i*4)) (h3:cs.length=n*4) (hi:i<n) (hv:vs.length=4) :
  ((row.take (i*4)++vs++row.drop (i*4+vs.length)).take ((i+1)*4)++cs.drop (i*4)++(row.take (i*4)++vs++row.drop (i*4+vs.length)).drop ((i+1)*4+(cs.drop (i*4)).length)).take ((n+1)*4)=cs.take (i*4)++(vs++cs.drop (i*4)):=by
 have e1:(row.take (i * 4) ++ vs ++ row.drop (i * 4+vs.length)).take ((i+1) * 4)=cs.take (i * 4) ++ vs:=by
  have hl:(cs.take (i*4)++vs).length=(i+1)*4:=by simp[h3,hv];omega
  rw[h2,←hl,List.take_left]
 rw[e1,List.append_assoc,List.append_assoc,←List.append_assoc vs,←List.append_assoc (cs.take (i*4))]
 have hl:(cs.take (i*4)++(vs++cs.drop (i*4))).length=(n+1)*4:=by simp[h3,hv];omega
 rw[←hl,List.take_left]
theorem Insert_grow (w:World) {base b c gv i:Nat}{l:List EdD}{e:EdD}(hown:OwEd base w (.slice (some ⟨b,0,none⟩) l.length c) l) (hv:Blk w gv 114 #[.int .i64 e.a,.int .i64 e.b,.int .i64 e.l,.int .i64 e.r]) (hbase:base≤w.heap.size) (hlen:l.length≤100000) (hi:i<l.length) (hroom:c<l.length+1) :
  Calls Tryz.prog 73 #[.slice (some ⟨b,0,none⟩) l.length c,.int .i64 (i:Int),.slice (some ⟨gv,0,none⟩) 1 1] w (InsRes base w (.slice (some ⟨b,0,none⟩) l.length c) (l.take i++e::l.drop i)):=by
 obtain⟨i0,hi0,hz0,hz1,hz2⟩:=info_parts info_edge
 have hsz4:(Tryz.prog.info? 114).map (·.size)=some 4:=by rw[hi0];simp[hz1]
 obtain⟨hcl,⟨h,_⟩ |⟨g,cap,cur,h,hg,hh,hnc,hm,hcs,htk⟩⟩:=id hown
 ·cases h
 injection h with q1 q2 q3
 injection q1 with q1
 injection q1 with q1
 subst q1 q3
 have hc63:c≤9223372036854775807:=by unfold maxLen at hm;omega
 obtain⟨cs,hcse⟩:∃cs,l.flatMap encE=cs:=⟨_,rfl⟩
 have hone:=flat_one l
 have hft:=flat_take l i
 have hfd:=flat_drop l i
 have hbl:=heap_lt hh
 rw[hcse]at hcl htk hone hft hfd
 obtain⟨n,hn⟩:∃n,l.length=n:=⟨_,rfl⟩
 have hn2:=Lib.hid hn
 rw[hn]at hlen hi hroom hcl hnc htk ⊢
 clear hn hown hcse
 obtain rfl:n=c:=by omega
 have hdl:(cs.drop (i*4)).length=(n-i)*4:=by rw[List.length_drop,hcl];omega
 have htl:(cs.take (i*4)).length=i*4:=by rw[List.length_take,hcl];omega
 have hold:(Builtin.firstCells i0.size i (.slice (some ⟨b,0,none⟩) i n)).run Tryz.prog w.drew=.ok (cs.take (i * 4)).toArray w.drew:=by
  rw[hz1]
  exact run_firstCells_some w.drew 4 i ⟨b,0,none⟩ i n (cs.take (i*4)) htl (fun j u hj=>by
   rw[Addr.add_lit,Nat.zero_add]
   rw[List.getElem?_take]at hj
   split at hj
   ·exact row_cell (w:=w.drew) hh htk hj
   ·cases hj)
 have hik:i+(n+1-i)=n+1:=by omega
 have hkk:(n:Int)+1-(i:Int)=((n+1-i:Nat):Int):=by omega
 have hrz : ∀ ty, (Builtin.append_ #[41, 3] ty #[.slice (some ⟨b, 0, none⟩) i n, .int .i64 ((n : Int) + 1 - (i : Int))]).run Tryz.prog w =
   .ok (.slice (some ⟨w.heap.size,0,none⟩) (n+1) (grownCap w (n+1) n 114)) (w.drew.alloc (.cells ((cs.take (i*4)).toArray++Builtin.zeroCells (.agg #[.int .i64 0,.int .i64 0,.int .i64 0,.int .i64 0]:Value).cells (n+1-i)++Builtin.zeroCells (.agg #[.int .i64 0,.int .i64 0,.int .i64 0,.int .i64 0]:Value).cells (grownCap w (n+1) n 114-(n+1))) 114)):=fun ty=>by
  have h:=Go.Lib.run_append_grow_zeros w 41 3 ty 114 i0 _ .i64 .i64 Tryz.underlying41 Tryz.underlying3 hi0 hz0 (some ⟨b,0,none⟩) i n (cs.take (i*4)) hold (n+1-i) (by omega) (by omega) (by omega) (by omega) (by rw[hz2];omega) (by rw[hz2,hik];exact growslice_fits (by omega) (by omega))
  rw[hik]at h
  rw[hkk]
  exact h
 obtain⟨G,hG⟩:∃G,G=grownCap w (n+1) n 114:=⟨_,rfl⟩
 obtain⟨ROW,hROW⟩:∃ROW:Array Value,ROW=(cs.take (i*4)).toArray++Builtin.zeroCells (.agg #[.int .i64 0,.int .i64 0,.int .i64 0,.int .i64 0]:Value).cells (n+1-i)++Builtin.zeroCells (.agg #[.int .i64 0,.int .i64 0,.int .i64 0,.int .i64 0]:Value).cells (G-(n+1)):=⟨_,rfl⟩
 rw[←hG]at hrz
 rw[←hROW]at hrz
 have hGn:n+1≤G:=by rw[hG];exact grownCap_ge w _ _ _
 have hGm:G≤maxLen:=by rw[hG];exact grownCap_le_maxLen w _ _ _ (by unfold maxLen;omega)
 have hG63:G≤9223372036854775807:=by unfold maxLen at hGm;omega
 have hrs:ROW.size=G * 4:=by
  rw[hROW]
  simp[Builtin.zeroCells,Value.cells,htl]
  omega
 have hrt:ROW.toList.take (i * 4)=cs.take (i * 4):=by
  rw[hROW,Array.append_assoc,Array.toList_append,←htl]
  simp
 obtain⟨cur1,hc1⟩:∃cur1,(ROW.toList.take (i*4)++encE e++ROW.toList.drop (i*4+(encE e).length)).toArray=cur1:=⟨_,rfl⟩
 have hv4:(encE e).length=4:=rfl
 have hs1:cur1.size=G*4:=by rw[←hc1];simp[hrs];rw[hv4];omega
 obtain⟨cur2,hc2⟩:∃cur2,(cur1.toList.take ((i+1)*4)++cs.drop (i*4)++cur1.toList.drop ((i+1)*4+(cs.drop (i*4)).length)).toArray=cur2:=⟨_,rfl⟩
 have hvl:=hv.lt
 have hN:(w.alloc (.cells ROW 114)).heap[w.heap.size]?=some (.cells ROW 114 (0,0)):=heap_alloc_new w _
 have hcell:∀(W X:World) (p:Addr),W.heap[p.block]?=X.heap[p.block]?→W.cell? p=X.cell? p:=fun W X p h=>by simp only[World.cell?,h]
 have hcpA:∀(W:World),W.heap=(w.alloc (.cells ROW 114)).heap→∀ty dc,(Builtin.copy_ #[41,41] ty #[.slice (some ⟨w.heap.size,i*4,none⟩) (n+1-i) dc,.slice (some ⟨gv,0,none⟩) 1 1]).run Tryz.prog W=.ok (goInt ((1:Nat):Int)) (W.setRow w.heap.size cur1):=fun W hW ty dc=>by
  rw[←hc1]
  exact run_copy_rowK W _ _ ty 114 w.heap.size (i * 4) (n + 1 - i) dc ⟨gv, 0, none⟩ 1 1 ROW 114 (encE e) 4 1 Tryz.underlying41 hsz4 (by rw [hW]; exact hN) (by simp only [Nat.min_def]; split <;> omega) rfl
   (fun j u hj=>by
    rw[Addr.add_lit,hcell W w _ (by rw[hW];exact Below.heap_alloc w _ gv hvl),Nat.zero_add,hv.cell j,←hj,←Array.getElem?_toList]
    rfl) (by rw[hrs];show i*4+4≤G*4;omega) (enc_one e)
 have hN1:((w.alloc (.cells ROW 114)).setRow w.heap.size cur1).heap[w.heap.size]?=some (.cells cur1 114 (0,0)):=setRow_get hN
 have hcpB:∀(W:World),W.heap=((w.alloc (.cells ROW 114)).setRow w.heap.size cur1).heap→∀ty dc sc,(Builtin.copy_ #[41,41] ty #[.slice (some ⟨w.heap.size,(i+1)*4,none⟩) (n-i) dc,.slice (some ⟨b,i*4,none⟩) (n-i) sc]).run Tryz.prog W=.ok (goInt ((n-i:Nat):Int)) (W.setRow w.heap.size cur2):=fun W hW ty dc sc=>by
  rw[←hc2]
  exact run_copy_rowK W _ _ ty 114 w.heap.size ((i + 1) * 4) (n - i) dc ⟨b, i * 4, none⟩ (n - i) sc cur1 114 (cs.drop (i * 4)) 4 (n - i) Tryz.underlying41 hsz4 (by rw [hW]; exact hN1) (by simp only [Nat.min_def]; split <;> omega) hdl
   (fun j u hj=>by
    rw[Addr.add_lit,hcell W w _ (by rw[hW,setRow_other _ _ _ _ (show b≠w.heap.size by omega)];exact Below.heap_alloc w _ b hbl)]
    rw[List.getElem?_drop]at hj
    exact row_cell hh htk hj) (by rw[hdl,hs1];omega) (fun u hu=>hone u (List.mem_of_mem_drop hu))
 have hz2:¬((i:Int)=(n:Int)):=by omega
 have hz3:(n:Int)<(n:Int)+1:=by omega
 have hb2:¬(G=i+1):=by omega
 have hb4:¬(G=i):=by omega
 have hb6:¬(n=i):=by omega
 have hw1:IntKind.i64.wrap ((i:Int)+1)=(i:Int)+1:=by rw[IntKind.wrap_i64];omega
 have hb1:(0:Int)≤(i:Int)+1:=by omega
 have hin:i≤n:=by omega
 have mixed:Tryz.prog.follows Departure.mixedOrders=true:=by kernel_rfl
 have htn:((i:Int)+1).toNat=i+1:=by omega
 have hb3:(i:Int)≤(n:Int):=by omega
 have hcpB2:=hcpB (((w.alloc (.cells ROW 114)).drew.setRow w.heap.size cur1).drew) rfl
 clear hcpB
 have hc2h:=Lib.hid hc2
 have hc1h:=Lib.hid hc1
 clear hc1 hc2 hkk hik hold hROW hG
 go_enter Tryz.func73,Tryz.ntmps73
 go_wp2_with (first
  | (at_builtin;refine Go.Lib.wpList_append_run _ rfl _ _ _ _ rfl _ _ rfl rfl _ _ (hrz _) ?_)
  | (refine wpList_copy_runE _ rfl _ _ 41 41 rfl _ _ rfl rfl (hcpA ((w.alloc (.cells ROW 114)).drew) rfl _ _) ?_))
 go_region_law_o (refine step_copy_runE rfl _ _ 41 41 rfl (.slice (some ⟨w.heap.size,(i+1)*4,none⟩) (n-i) (G-(i+1))) (.slice (some ⟨b,i*4,none⟩) (n-i) (n-i)) (by simp[Act.eval,Act.put]) (by simp[Act.eval,Act.put]) (hcpB2 _ _ _) ?_)
 go_wp2
 go_ret
 have hc1:=hc1h.out
 have hc2:=hc2h.out
 have hlen2:(l.take i++e::l.drop i).length=n+1:=by simp[hn2.out];omega
 have hfl:(l.take i++e::l.drop i).flatMap encE=cs.take (i*4)++(encE e++cs.drop (i*4)):=by rw[List.flatMap_append,List.flatMap_cons,hft,hfd]
 have hct:cur1.toList=ROW.toList.take (i*4)++encE e++ROW.toList.drop (i*4+(encE e).length):=by rw[←hc1]
 have hh2:=setRow_get (cur':=cur2) hN1
 refine⟨_,rfl,?_,?_,?_,fun g hgs hn=>⟨?_,?_⟩,fun e=>by cases e⟩
 ·unfold OwEd World.ownsRow
  rw[hlen2,hfl]
  refine⟨?_,.inr ⟨w.heap.size,G,_,rfl,hbase,hh2,by omega,hGm,?_,?_⟩⟩
  ·simp[hcl];omega
  ·rw[←hc2];simp[hs1];omega
  ·rw[←hc2,hct]
   exact ins_list2 hrt hcl hi hv4
 ·exact below_setRow (Below.drew (below_setRow (Below.drew (Below.alloc (Below.refl base w) hbase _)) hbase _)) hbase _
 ·simp[World.setRow]
 ·rw[setRow_other _ _ _ _ (show g≠w.heap.size by omega)]
  refine(setRow_other (w.alloc (.cells ROW 114)).drew w.heap.size g cur1 (show g≠w.heap.size by omega)).trans ?_
  exact Below.heap_alloc w _ g hgs
 ·intro e
  injection e with e
  simp only at e
  omega
theorem Insert_edge (w:World) {base c gv i:Nat}{v:Value}{l:List EdD}{e:EdD}(hown:OwEd base w v l) (hnil:v≠.slice none 0 0) (hv:Blk w gv 114 #[.int .i64 e.a,.int .i64 e.b,.int .i64 e.l,.int .i64 e.r]) (hne:v.ownBlock≠Option.some gv) (hbase:base≤w.heap.size) (hlen:l.length≤100000) (hi:i≤l.length) (hc:c=1) :
  Calls Tryz.prog 73 #[v,.int .i64 (i:Int),.slice (some ⟨gv,0,none⟩) 1 c] w (InsRes base w v (l.take i++e::l.drop i)):=by
 subst hc
 obtain⟨_,⟨h,_⟩ |⟨g,cap,cur,rfl,hg,hh,hnc,hm,hcs,htk⟩⟩:=id hown
 ·exact absurd h hnil
 rcases Nat.lt_or_eq_of_le hi with hlt|rfl
 ·by_cases hr:l.length+1≤cap
  ·exact Insert_room w hown hv (fun e=>hne (by rw[e];rfl)) hlen hlt hr
  ·exact Insert_grow w hown hv hbase hlen hlt (by omega)
 ·have h:=Insert_end w hown hv hbase hlen
  rw[List.take_length,List.drop_length]
  exact h
end
section
open Go.RowKit
theorem OwL.grown {E:TypeId}{base:Nat}{w w':World}{v:Value}{l:List Int}{row:Option Nat}(h:OwL E base w v l) (hg:w.grownBy w' row) (hr:∀k,row=some k→v.ownBlock≠some k):OwL E base w' v l:=by
 refine⟨h.1,?_⟩
 rcases h.2 with h2 |⟨g,cap,cur,hv,hgb,hh,r⟩
 ·exact .inl h2
 ·exact .inr ⟨g,cap,cur,hv,hgb,(hg.block g (heap_lt hh) (by intro e;exact hr g e.symm (by rw[hv];rfl))).trans hh,r⟩
theorem OwI.past {T E:TypeId}{b0 k:Nat}{w w':World}{A:Option Addr}{n c:Nat}{l:List Int}(h:OwI T b0 w A n c l) (hg:w.grownBy w' (some k)) (hk:w.heap[k]?=some (.cells #[] E)):OwI T b0 w' A n c l:=by
 obtain⟨bs,h1,hf⟩:=FtI.of_own h
 have h2 : FtI T w' A n c l bs := h1.keep hg.size (fun b hb => hg.block b (hf.2 b hb).2 (by
  intro e
  injection e with e
  subst e
  rcases h1.2 with ⟨_,e2⟩ |⟨g,cs,h0,_,hh,hn,e2⟩
  ·rw[e2]at hb;cases hb
  ·rw[e2]at hb
   simp at hb
   subst hb
   rw[hk]at hh
   injection hh with hh
   injection hh with hh
   subst hh
   simp at hn
   omega))
 refine⟨h2.1,?_⟩
 rcases h2.2 with ⟨h0,_⟩ |⟨g,cs,_,e,hh,hn,e2⟩
 ·exact .inl h0
 ·exact .inr ⟨g,cs,e,(hf.2 g (by rw[e2];simp)).1,hh,hn⟩
theorem OwL.empty1 {E:TypeId}{base:Nat}(W:World) (o:Obj) {cur:Array Value}(hb:base≤W.heap.size+1) (hm:cur.size≤maxLen):OwL E base ((W.alloc o).alloc (.cells cur E)) (.slice (some ⟨W.heap.size+1,0,none⟩) 0 cur.size) []:=by
 have h:=OwL.empty (E:=E) (base:=base) (W.alloc o) (cur:=cur) (by rw[World.size_alloc];exact hb) hm
 rwa [World.size_alloc]at h
def OwQ (T:TypeId) (b0:Nat) (w:World) (s:Bool) (A:Option Addr) (n c:Nat) (B:Option Addr) (m d:Nat) (r:RatD):Prop :=
 ∃bs,FtR T w s A n c B m d r bs∧∀b∈bs,b0≤b∧b<w.heap.size
section
variable {T:TypeId}{b0 b1:Nat}{w W:World}{s:Bool}{A:Option Addr}{n c:Nat}{B:Option Addr}{m d:Nat}{r:RatD}
theorem OwQ.of (h:OwR T b0 w s A n c B m d r):OwQ T b0 w s A n c B m d r:=by
 obtain⟨bs,h,hf⟩:=h
 exact⟨bs,h,hf.2⟩
theorem OwQ.rd (h:OwQ T b0 w s A n c B m d r):RdR w s A n c B m d r:=by
 obtain⟨bs,h,_⟩:=h
 exact h.rd
theorem OwQ.two (hs:s=r.neg) (h:OwI T b0 w A n c r.mag) (k:OwI T b0 w B m d r.den):OwQ T b0 w s A n c B m d r:=by
 obtain⟨b1,h1,f1⟩:=FtI.of_own h
 obtain⟨b2,h2,f2⟩:=FtI.of_own k
 refine⟨b1++b2,⟨hs,b1,b2,h1,h2,rfl⟩,fun b hb=>?_⟩
 rcases List.mem_append.1 hb with hb|hb
 ·exact f1.2 b hb
 ·exact f2.2 b hb
theorem OwQ.bl (h:OwQ T b0 w s A n c B m d r) (hb:Bl w W):OwQ T b0 W s A n c B m d r:=by
 obtain⟨bs,h,hf⟩:=h
 exact⟨bs,h.bl hb,fun b hm=>⟨(hf b hm).1,Nat.lt_of_lt_of_le (hf b hm).2 hb.size⟩⟩
theorem OwQ.mono (h:OwQ T b1 w s A n c B m d r) (hb:b0≤b1):OwQ T b0 w s A n c B m d r:=by
 obtain⟨bs,h,hf⟩:=h
 exact⟨bs,h,fun b hm=>⟨Nat.le_trans hb (hf b hm).1,(hf b hm).2⟩⟩
theorem OwQ.far (h:OwQ T b0 w s A n c B m d r) {q:Addr}(hp:q.block<b0) (u:Value):OwQ T b0 (w.setCell q u) s A n c B m d r:=by
 obtain⟨bs,h,hf⟩:=h
 refine⟨bs,h.keep (by simp) (fun b hb=>Below.heap_setCell w q u b (by have:=(hf b hb).1;omega)),fun b hm=>?_⟩
 have:=hf b hm
 simpa using this
end
theorem l04Copy_any (w:World) {s:Bool}{A:Option Addr}{n c:Nat}{B:Option Addr}{m d:Nat}{r:RatD}(h:RdR w s A n c B m d r) (hn:n≤1048576) (hm:m≤1048576) :
  Calls Tryz.prog 141 #[.agg #[.bool s,.slice A n c,.slice B m d]] w fun e w'=>∃s1 A1 n1 c1 B1 m1 d1,e=.returned (.agg #[.bool s1,.slice A1 n1 c1,.slice B1 m1 d1])∧OwQ 3 w.heap.size w' s1 A1 n1 c1 B1 m1 d1 r∧Bl w w':=by
 have hs:=Lib.hid h.neg
 have hl1:Hid ((([]:List Int)++r.mag).length=n):=by have:=RdI.len h.mag;unfold Hid;simpa using this
 have hl2:Hid ((([]:List Int)++r.den).length=m):=by have:=RdI.len h.den;unfold Hid;simpa using this
 go_enter Tryz.func141,Tryz.ntmps141
 go_wp2_with fail
 refine wp_gen (fun W=>Bl w W∧Blk W (w.heap.size) 54 #[.bool s,.slice A n c,.slice B m d]∧Wk 3 54 (w.heap.size+1) W) ⟨slc,bts,bts⟩ ?_
 rintro W ⟨hbW,hx,hr⟩
 have hzW:=hr.lt
 go_region_held3 (fun w'=>(w'.cell? ⟨w.heap.size,0,none⟩=some (.bool s)∧w'.cell? ⟨w.heap.size,1,none⟩=some (.slice A n c)∧w'.cell? ⟨w.heap.size,2,none⟩=some (.slice B m d))∧(w'.cell? ⟨w.heap.size+1,0,none⟩=some (cellD w' (w.heap.size+1) 0)∧w'.cell? ⟨w.heap.size+1,1,none⟩=some (cellD w' (w.heap.size+1) 1)∧w'.cell? ⟨w.heap.size+1,2,none⟩=some (cellD w' (w.heap.size+1) 2))∧w'.frozen? ⟨w.heap.size+1,0,none⟩=false∧w'.frozen? ⟨w.heap.size+1,1,none⟩=false∧w'.frozen? ⟨w.heap.size+1,2,none⟩=false) (first|exact⟨bx3 (T:=54) bts,Wk.out3 (T:=54) bts⟩) (first |(refine step_append_x (w0:=W) info_int Tryz.underlying28 rfl (.tmp 6) (.tmp 9) rfl _ [] (by rfl) (OwL.empty W.drew (Nat.le_refl _) (by simp)) slc A n c (by rfl) r.mag (h.mag.bl slc) (by simp) (by omega) ?_;intro v1 w5 hown hb5 hg5;(obtain⟨A1,c1,hv,ho1⟩:=hown.own (by rw[hl1.out];omega));rw[hl1.out]at hv ho1;subst hv;rw[List.nil_append]at ho1) |(refine step_append_x (w0:=W) info_int Tryz.underlying28 rfl (.tmp 6) (.tmp 9) rfl _ [] (by rfl) ((OwL.empty W.drew (Nat.le_refl _) (by simp)).alloc _) slc A n c (by rfl) r.mag (h.mag.bl slc) (by simp) (by omega) ?_;intro v1 w5 hown hb5 hg5;(obtain⟨A1,c1,hv,ho1⟩:=hown.own (by rw[hl1.out];omega));rw[hl1.out]at hv ho1;subst hv;rw[List.nil_append]at ho1) |(refine step_append_x (w0:=W) info_int Tryz.underlying28 rfl (.tmp 6) (.tmp 9) rfl _ [] (by rfl) (OwL.empty1 W.drew _ (Nat.le_succ _) (by simp)) slc A n c (by rfl) r.mag (h.mag.bl slc) (by simp) (by omega) ?_;intro v1 w5 hown hb5 hg5;(obtain⟨A1,c1,hv,ho1⟩:=hown.own (by rw[hl1.out];omega));rw[hl1.out]at hv ho1;subst hv;rw[List.nil_append]at ho1) |(refine step_append_x (w0:=w5) info_int Tryz.underlying28 rfl (.tmp 12) (.tmp 14) rfl _ [] (by rfl) (OwL.empty w5 (Nat.le_refl _) (by simp)) slc B m d (by rfl) r.den (h.den.bl slc) (by simp) (by omega) ?_;intro v2 w6 hown hb6 hg6;(obtain⟨B1,d1,hv,ho2⟩:=hown.own (by rw[hl2.out];omega));rw[hl2.out]at hv ho2;subst hv;rw[List.nil_append]at ho2) |(refine step_append_x (w0:=W) info_int Tryz.underlying28 rfl (.tmp 12) (.tmp 14) rfl _ [] (by rfl) (((OwL.empty1 (base:=W.heap.size) W _ (Nat.le_succ _) (by simp)).drew).grown hg5 (by intro k hk;simp[Value.ownBlock]at hk ⊢;omega)) slc B m d (by rfl) r.den (h.den.bl slc) (by simp) (by omega) ?_;intro v2 w6 hown hb6 hg6;(obtain⟨B1,d1,hv,ho2⟩:=hown.own (by rw[hl2.out];omega));rw[hl2.out]at hv ho2;subst hv;rw[List.nil_append]at ho2) |(refine step_append_x (w0:=W) info_int Tryz.underlying28 rfl (.tmp 12) (.tmp 14) rfl _ [] (by rfl) ((((OwL.empty (base:=W.heap.size) W (Nat.le_refl _) (by simp)).alloc _).drew).grown hg5 (by intro k hk;simp[Value.ownBlock]at hk ⊢;omega)) slc B m d (by rfl) r.den (h.den.bl slc) (by simp) (by omega) ?_;intro v2 w6 hown hb6 hg6;(obtain⟨B1,d1,hv,ho2⟩:=hown.own (by rw[hl2.out];omega));rw[hl2.out]at hv ho2;subst hv;rw[List.nil_append]at ho2))
 ·have hz5:=hb5.size
  have hbW:Bl w w6:=(hbW.next hb5).next hb6
  have hr:=(hr.bl hb5).bl hb6
  have hA:=ho1.bl hb6
  have hB:=ho2
  obtain⟨v0,x0⟩:=hr.val_ (i:=0) (by omega)
  obtain⟨v1,x1⟩:=hr.val_ (i:=1) (by omega)
  obtain⟨v2,x2⟩:=hr.val_ (i:=2) (by omega)
  have hg:=hr.lt
  obtain⟨cs4,hB4,hc4⟩:=hr
  have hf0:=hB4.frozen 0
  have hf1:=hB4.frozen 1
  have hf2:=hB4.frozen 2
  go_wp2_with fail
  refine bodyPost_ret (v:=.agg #[.bool s,.slice A1 n c1,.slice B1 m d1]) (by simp[results,Tryz.results141,go_sem,x0,x1,x2]) rfl ⟨_,_,_,_,_,_,_,rfl,OwQ.two hs.out ?_ ?_,slc⟩
  ·exact(((hA.far (by simp;omega) _).far (by simp;omega) _).far (by simp;omega) _).mono (by omega)
  ·exact(((hB.far (by simp;omega) _).far (by simp;omega) _).far (by simp;omega) _).mono (by omega)
 ·have hbW:=hbW.next hb6
  have hr:=hr.bl hb6
  have hA:=ho1.past (E:=3) (k:=W.heap.size+1) hg6 ((hg5.block _ (by simp) (by simp[Value.ownBlock])).trans (by have:=heap_alloc_new (W.alloc (.cells #[] 3)) (.cells #[] 3);rwa [World.size_alloc]at this))
  have hB:=ho2
  obtain⟨v0,x0⟩:=hr.val_ (i:=0) (by omega)
  obtain⟨v1,x1⟩:=hr.val_ (i:=1) (by omega)
  obtain⟨v2,x2⟩:=hr.val_ (i:=2) (by omega)
  have hg:=hr.lt
  obtain⟨cs4,hB4,hc4⟩:=hr
  have hf0:=hB4.frozen 0
  have hf1:=hB4.frozen 1
  have hf2:=hB4.frozen 2
  go_wp2_with fail
  refine bodyPost_ret (v:=.agg #[.bool s,.slice A1 n c1,.slice B1 m d1]) (by simp[results,Tryz.results141,go_sem,x0,x1,x2]) rfl ⟨_,_,_,_,_,_,_,rfl,OwQ.two hs.out ?_ ?_,slc⟩
  ·exact(((hA.far (by simp;omega) _).far (by simp;omega) _).far (by simp;omega) _).mono (by omega)
  ·exact(((hB.far (by simp;omega) _).far (by simp;omega) _).far (by simp;omega) _).mono (by omega)
 ·have hbW:=hbW.next hb6
  have hr:=hr.bl hb6
  have hA:=ho1.past (E:=3) (k:=W.heap.size) hg6 ((hg5.block _ (by simp;omega) (by simp[Value.ownBlock])).trans (Blk.alloc (Blk.new W 3 #[]) _))
  have hB:=ho2
  obtain⟨v0,x0⟩:=hr.val_ (i:=0) (by omega)
  obtain⟨v1,x1⟩:=hr.val_ (i:=1) (by omega)
  obtain⟨v2,x2⟩:=hr.val_ (i:=2) (by omega)
  have hg:=hr.lt
  obtain⟨cs4,hB4,hc4⟩:=hr
  have hf0:=hB4.frozen 0
  have hf1:=hB4.frozen 1
  have hf2:=hB4.frozen 2
  go_wp2_with fail
  refine bodyPost_ret (v:=.agg #[.bool s,.slice A1 n c1,.slice B1 m d1]) (by simp[results,Tryz.results141,go_sem,x0,x1,x2]) rfl ⟨_,_,_,_,_,_,_,rfl,OwQ.two hs.out ?_ ?_,slc⟩
  ·exact(((hA.far (by simp;omega) _).far (by simp;omega) _).far (by simp;omega) _).mono (by omega)
  ·exact(((hB.far (by simp;omega) _).far (by simp;omega) _).far (by simp;omega) _).mono (by omega)
end
end Go.Proofs.YtmkcacgmnnlddaaGreat
