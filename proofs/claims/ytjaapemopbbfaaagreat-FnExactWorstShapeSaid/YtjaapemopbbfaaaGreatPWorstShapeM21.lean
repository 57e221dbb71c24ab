/- Lemmas. -/
import Derived.Test.YtjaapemopbbfaaaGreatRows
import Derived.Test.YtjaapemopbbfaaaGreatPWorstShapeM13
import Derived.Test.YtjaapemopbbfaaaGreatPWorstShapeM02
namespace Go.Proofs.YtjaapemopbbfaaaGreat
section
open Go.RowKit

set_option maxRecDepth 100000 in
set_option maxHeartbeats 8000000 in
theorem Cross_any (w:World) {s:Bool}{A:Option Addr}{n c:Nat}{B:Option Addr}{m d:Nat}{t:Bool}{C:Option Addr}{i e:Nat}{D:Option Addr}{j f:Nat}{p:PtD}{s':Bool}{A':Option Addr}{n' c':Nat}{B':Option Addr}{m' d':Nat}{t':Bool}{C':Option Addr}{i' e':Nat}{D':Option Addr}{j' f':Nat}{p':PtD}(h:RdR w s A n c B m d p.x) (k:RdR w t C i e D j f p.y) (h':RdR w s' A' n' c' B' m' d' p'.x) (k':RdR w t' C' i' e' D' j' f' p'.y) :
    Calls Tryz.prog 114 #[.agg #[.bool s,.slice A n c,.slice B m d,.bool t,.slice C i e,.slice D j f],.agg #[.bool s',.slice A' n' c',.slice B' m' d',.bool t',.slice C' i' e',.slice D' j' f']] w fun en w'=> ∃ s1 A1 n1 c1 B1 m1 d1,en=.returned (.agg #[.bool s1,.slice A1 n1 c1,.slice B1 m1 d1])∧OwR 3 w.heap.size w' s1 A1 n1 c1 B1 m1 d1 (crossP p p')∧Bl w w':=by
  go_enter Tryz.func114,Tryz.ntmps114
  go_wp2_with fail
  refine wp_gen (fun W=> Bl w W∧Blk W (w.heap.size) 76 #[.bool s,.slice A n c,.slice B m d,.bool t,.slice C i e,.slice D j f]∧Blk W (w.heap.size+1) 76 #[.bool s',.slice A' n' c',.slice B' m' d',.bool t',.slice C' i' e',.slice D' j' f']∧Wk 3 31 (w.heap.size+1+1) W) ⟨slc,bts,bts,bts⟩ ?_
  rintro W ⟨hbW,hx,hx',hr⟩
  go_region_held3 (fun w' =>(w'.cell? ⟨w.heap.size,0,none⟩=some (.bool s)∧w'.cell? ⟨w.heap.size,1,none⟩=some (.slice A n c)∧w'.cell? ⟨w.heap.size,2,none⟩=some (.slice B m d)∧w'.cell? ⟨w.heap.size,3,none⟩=some (.bool t)∧w'.cell? ⟨w.heap.size,4,none⟩=some (.slice C i e)∧w'.cell? ⟨w.heap.size,5,none⟩=some (.slice D j f))∧(w'.cell? ⟨w.heap.size+1,0,none⟩=some (.bool s')∧w'.cell? ⟨w.heap.size+1,1,none⟩=some (.slice A' n' c')∧w'.cell? ⟨w.heap.size+1,2,none⟩=some (.slice B' m' d')∧w'.cell? ⟨w.heap.size+1,3,none⟩=some (.bool t')∧w'.cell? ⟨w.heap.size+1,4,none⟩=some (.slice C' i' e')∧w'.cell? ⟨w.heap.size+1,5,none⟩=some (.slice D' j' f'))∧(w'.cell? ⟨w.heap.size+1+1,0,none⟩=some (cellD w' (w.heap.size+1+1) 0)∧w'.cell? ⟨w.heap.size+1+1,1,none⟩=some (cellD w' (w.heap.size+1+1) 1)∧w'.cell? ⟨w.heap.size+1+1,2,none⟩=some (cellD w' (w.heap.size+1+1) 2))∧w'.frozen? ⟨w.heap.size+1+1,0,none⟩=false∧w'.frozen? ⟨w.heap.size+1+1,1,none⟩=false∧w'.frozen? ⟨w.heap.size+1+1,2,none⟩=false) (first | exact⟨bx6 (T:=76) bts,bx6 (T:=76) bts,Wk.out3 (T:=31) bts⟩) (first |(go_at_call 113;with_reducible refine(RatMul_any _ (h.bl slc) (k'.bl slc)).mono ?_;rintro en w2 ⟨s2,A2,n2,c2,B2,m2,d2,rfl,hR2,hb2⟩) |(go_at_call 113;with_reducible refine(RatMul_any _ (k.bl slc) (h'.bl slc)).mono ?_;rintro en w3 ⟨s3,A3,n3,c3,B3,m3,d3,rfl,hR3,hb3⟩) |(go_at_call 111;refine(RatSub_any _ (hR2.rd.bl hb3) hR3.rd).mono ?_;rintro en w4 ⟨s1,A1,n1,c1,B1,m1,d1,rfl,hR,hb4⟩))
  have hz:w.heap.size+1+1+1≤W.heap.size:=hr.lt
  have hz2:W.heap.size≤w2.heap.size:=(Bl.size hb2:W.drew.heap.size≤_)
  have hz3:w2.heap.size≤w3.heap.size:=Bl.size hb3
  have hr:=(show Wk 3 31 (w.heap.size+1+1) w4 from bts)
  have hbW:Bl w w4:=slc
  have hR:=hR.mono (show w.heap.size+1+1+1≤w3.heap.size by omega)
  obtain⟨v0,x0⟩:=hr.val_ (i:=0) (by omega)
  obtain⟨v1,x1⟩:=hr.val_ (i:=1) (by omega)
  obtain⟨v2,x2⟩:=hr.val_ (i:=2) (by omega)
  have hg:=hr.lt
  obtain⟨cs4,hB4,hc4⟩:=hr
  have hf0:=hB4.frozen 0
  have hf1:=hB4.frozen 1
  have hf2:=hB4.frozen 2
  go_wp2_with fail
  exact bodyPost_ret (v:=.agg #[.bool s1,.slice A1 n1 c1,.slice B1 m1 d1]) (by simp[results,Tryz.results114,go_sem,x0,x1,x2]) rfl ⟨_,_,_,_,_,_,_,rfl,(((hR.far (by simp) _).far (by simp) _).far (by simp) _).mono (by omega),slc⟩


set_option maxRecDepth 100000 in
set_option maxHeartbeats 8000000 in
theorem DoubleArea_any (w:World) {s:Bool}{A:Option Addr}{n c:Nat}{B:Option Addr}{m d:Nat}{t:Bool}{C:Option Addr}{i e:Nat}{D:Option Addr}{j f:Nat}{p:PtD}{s':Bool}{A':Option Addr}{n' c':Nat}{B':Option Addr}{m' d':Nat}{t':Bool}{C':Option Addr}{i' e':Nat}{D':Option Addr}{j' f':Nat}{p':PtD}{s2:Bool}{A2:Option Addr}{n2 c2:Nat}{B2:Option Addr}{m2 d2:Nat}{t2:Bool}{C2:Option Addr}{i2 e2:Nat}{D2:Option Addr}{j2 f2:Nat}{p2:PtD}(h:RdR w s A n c B m d p.x) (k:RdR w t C i e D j f p.y) (h':RdR w s' A' n' c' B' m' d' p'.x) (k':RdR w t' C' i' e' D' j' f' p'.y) (h2:RdR w s2 A2 n2 c2 B2 m2 d2 p2.x) (k2:RdR w t2 C2 i2 e2 D2 j2 f2 p2.y) :
    Calls Tryz.prog 69 #[.agg #[.bool s,.slice A n c,.slice B m d,.bool t,.slice C i e,.slice D j f],.agg #[.bool s',.slice A' n' c',.slice B' m' d',.bool t',.slice C' i' e',.slice D' j' f'],.agg #[.bool s2,.slice A2 n2 c2,.slice B2 m2 d2,.bool t2,.slice C2 i2 e2,.slice D2 j2 f2]] w fun en w'=> ∃ s1 A1 n1 c1 B1 m1 d1,en=.returned (.agg #[.bool s1,.slice A1 n1 c1,.slice B1 m1 d1])∧OwR 3 w.heap.size w' s1 A1 n1 c1 B1 m1 d1 (dblA p p' p2)∧Bl w w':=by
  go_enter Tryz.func69,Tryz.ntmps69
  go_wp2_with fail
  refine wp_gen (fun W=> Bl w W∧Blk W (w.heap.size) 76 #[.bool s,.slice A n c,.slice B m d,.bool t,.slice C i e,.slice D j f]∧Blk W (w.heap.size+1) 76 #[.bool s',.slice A' n' c',.slice B' m' d',.bool t',.slice C' i' e',.slice D' j' f']∧Blk W (w.heap.size+1+1) 76 #[.bool s2,.slice A2 n2 c2,.slice B2 m2 d2,.bool t2,.slice C2 i2 e2,.slice D2 j2 f2]∧Wk 3 31 (w.heap.size+1+1+1) W) ⟨slc,bts,bts,bts,bts⟩ ?_
  rintro W ⟨hbW,hx,hx',hx2,hr⟩
  go_region_held3 (fun w' =>(w'.cell? ⟨w.heap.size,0,none⟩=some (.bool s)∧w'.cell? ⟨w.heap.size,1,none⟩=some (.slice A n c)∧w'.cell? ⟨w.heap.size,2,none⟩=some (.slice B m d)∧w'.cell? ⟨w.heap.size,3,none⟩=some (.bool t)∧w'.cell? ⟨w.heap.size,4,none⟩=some (.slice C i e)∧w'.cell? ⟨w.heap.size,5,none⟩=some (.slice D j f))∧(w'.cell? ⟨w.heap.size+1,0,none⟩=some (.bool s')∧w'.cell? ⟨w.heap.size+1,1,none⟩=some (.slice A' n' c')∧w'.cell? ⟨w.heap.size+1,2,none⟩=some (.slice B' m' d')∧w'.cell? ⟨w.heap.size+1,3,none⟩=some (.bool t')∧w'.cell? ⟨w.heap.size+1,4,none⟩=some (.slice C' i' e')∧w'.cell? ⟨w.heap.size+1,5,none⟩=some (.slice D' j' f'))∧(w'.cell? ⟨w.heap.size+1+1,0,none⟩=some (.bool s2)∧w'.cell? ⟨w.heap.size+1+1,1,none⟩=some (.slice A2 n2 c2)∧w'.cell? ⟨w.heap.size+1+1,2,none⟩=some (.slice B2 m2 d2)∧w'.cell? ⟨w.heap.size+1+1,3,none⟩=some (.bool t2)∧w'.cell? ⟨w.heap.size+1+1,4,none⟩=some (.slice C2 i2 e2)∧w'.cell? ⟨w.heap.size+1+1,5,none⟩=some (.slice D2 j2 f2))∧(w'.cell? ⟨w.heap.size+1+1+1,0,none⟩=some (cellD w' (w.heap.size+1+1+1) 0)∧w'.cell? ⟨w.heap.size+1+1+1,1,none⟩=some (cellD w' (w.heap.size+1+1+1) 1)∧w'.cell? ⟨w.heap.size+1+1+1,2,none⟩=some (cellD w' (w.heap.size+1+1+1) 2))∧w'.frozen? ⟨w.heap.size+1+1+1,0,none⟩=false∧w'.frozen? ⟨w.heap.size+1+1+1,1,none⟩=false∧w'.frozen? ⟨w.heap.size+1+1+1,2,none⟩=false) (first | exact⟨bx6 (T:=76) bts,bx6 (T:=76) bts,bx6 (T:=76) bts,Wk.out3 (T:=31) bts⟩) (first |(go_at_call 65;with_reducible refine(SubtractPoints_any _ (h'.bl slc) (k'.bl slc) (h.bl slc) (k.bl slc)).mono ?_;rintro en w2 ⟨s3,A3,n3,c3,B3,m3,d3,t3,C3,i3,e3,D3,j3,f3,rfl,hP2,hb2⟩) |(go_at_call 65;with_reducible refine(SubtractPoints_any _ (h2.bl slc) (k2.bl slc) (h.bl slc) (k.bl slc)).mono ?_;rintro en w3 ⟨s4,A4,n4,c4,B4,m4,d4,t4,C4,i4,e4,D4,j4,f4,rfl,hP3,hb3⟩) |(go_at_call 114;refine(Cross_any _ (hP2.rx.bl hb3) (hP2.ry.bl hb3) hP3.rx hP3.ry).mono ?_;rintro en w4 ⟨s1,A1,n1,c1,B1,m1,d1,rfl,hR,hb4⟩))
  have hz:w.heap.size+1+1+1+1≤W.heap.size:=hr.lt
  have hz2:W.heap.size≤w2.heap.size:=(Bl.size hb2:W.drew.heap.size≤_)
  have hz3:w2.heap.size≤w3.heap.size:=Bl.size hb3
  have hr:=(show Wk 3 31 (w.heap.size+1+1+1) w4 from bts)
  have hbW:Bl w w4:=slc
  have hR:=hR.mono (show w.heap.size+1+1+1+1≤w3.heap.size by omega)
  obtain⟨v0,x0⟩:=hr.val_ (i:=0) (by omega)
  obtain⟨v1,x1⟩:=hr.val_ (i:=1) (by omega)
  obtain⟨v2,x2⟩:=hr.val_ (i:=2) (by omega)
  have hg:=hr.lt
  obtain⟨cs4,hB4,hc4⟩:=hr
  have hf0:=hB4.frozen 0
  have hf1:=hB4.frozen 1
  have hf2:=hB4.frozen 2
  go_wp2_with fail
  exact bodyPost_ret (v:=.agg #[.bool s1,.slice A1 n1 c1,.slice B1 m1 d1]) (by simp[results,Tryz.results69,go_sem,x0,x1,x2]) rfl ⟨_,_,_,_,_,_,_,rfl,(((hR.far (by simp) _).far (by simp) _).far (by simp) _).mono (by omega),slc⟩


set_option maxRecDepth 100000 in
theorem IsValidPoint_yes (w:World) {s:Bool}{A:Option Addr}{n c:Nat}{B:Option Addr}{m d:Nat}{t:Bool}{C:Option Addr}{i e:Nat}{D:Option Addr}{j f:Nat}{p:PtD}(h:RdR w s A n c B m d p.x) (k:RdR w t C i e D j f p.y) (ho:OkP p) :
    Calls Tryz.prog 97 #[.agg #[.bool s,.slice A n c,.slice B m d,.bool t,.slice C i e,.slice D j f]] w fun en w'=> en=.returned (.bool true)∧Bl w w':=by
  have hall:=Lib.hid (allOk_two.2 ho)
  clear ho
  go_enter Tryz.func97,Tryz.ntmps97
  go_wp2_with fail
  refine(areRats_yes _ (RdRS.two (Blk.new1 _ _ _ _) (h.bl slc) (k.bl slc)) hall.out).mono ?_
  rintro e w1 ⟨rfl,hb1⟩
  go_wp2_with fail
  go_ret
  exact⟨rfl,slc⟩
theorem IsProperF_yes (w:World) {s:Bool}{A:Option Addr}{n c:Nat}{B:Option Addr}{m d:Nat}{t:Bool}{C:Option Addr}{i e:Nat}{D:Option Addr}{j f:Nat}{p:PtD}(h:RdR w s A n c B m d p.x) (k:RdR w t C i e D j f p.y) (ho:OkP p) :
    Calls Tryz.prog 107 #[.agg #[.bool s,.slice A n c,.slice B m d,.bool t,.slice C i e,.slice D j f]] w fun en w'=> en=.returned (.bool false)∧Bl w w':=by
  have ho:=Lib.hid ho;rename_i h_;clear h_
  go_enter Tryz.func107,Tryz.ntmps107
  go_wp2_with fail
  refine(IsValidPoint_yes _ (h.bl slc) (k.bl slc) ho.out).mono ?_
  rintro e w1 ⟨rfl,hb1⟩
  go_wp2_with fail
  go_ret
  exact⟨rfl,slc⟩

set_option maxRecDepth 100000 in
theorem IsValidPoint_no (w:World) {s:Bool}{A:Option Addr}{n c:Nat}{B:Option Addr}{m d:Nat}{t:Bool}{C:Option Addr}{i e:Nat}{D:Option Addr}{j f:Nat}{p:PtD}(h:RdR w s A n c B m d p.x) (k:RdR w t C i e D j f p.y) (ho:¬ OkP p) :
    Calls Tryz.prog 97 #[.agg #[.bool s,.slice A n c,.slice B m d,.bool t,.slice C i e,.slice D j f]] w fun en w'=> en=.returned (.bool false)∧Bl w w':=by
  have hall:=Lib.hid (fun hk=> ho (allOk_two.1 hk):¬ AllOk [p.x,p.y])
  clear ho
  go_enter Tryz.func97,Tryz.ntmps97
  go_wp2_with fail
  refine(areRats_no _ (RdRS.two (Blk.new1 _ _ _ _) (h.bl slc) (k.bl slc)) hall.out).mono ?_
  rintro e w1 ⟨rfl,hb1⟩
  go_wp2_with fail
  go_ret
  exact⟨rfl,slc⟩
theorem IsProperF_no (w:World) {s:Bool}{A:Option Addr}{n c:Nat}{B:Option Addr}{m d:Nat}{t:Bool}{C:Option Addr}{i e:Nat}{D:Option Addr}{j f:Nat}{p:PtD}(h:RdR w s A n c B m d p.x) (k:RdR w t C i e D j f p.y) (ho:¬ OkP p) :
    Calls Tryz.prog 107 #[.agg #[.bool s,.slice A n c,.slice B m d,.bool t,.slice C i e,.slice D j f]] w fun en w'=> en=.returned (.bool true)∧Bl w w':=by
  have ho:=Lib.hid ho;rename_i h_;clear h_
  go_enter Tryz.func107,Tryz.ntmps107
  go_wp2_with fail
  refine(IsValidPoint_no _ (h.bl slc) (k.bl slc) ho.out).mono ?_
  rintro e w1 ⟨rfl,hb1⟩
  go_wp2_with fail
  go_ret
  exact⟨rfl,slc⟩

def AllP (l:List PtD):Prop:=∀ k,k < l.length→OkP (pix l k)
def PTo (l:List PtD) (k:Nat):Prop:=∀ j,j < k→OkP (pix l j)
theorem PTo.zero (l:List PtD):PTo l 0:=fun j hj=> by omega
theorem PTo.step {l:List PtD}{k:Nat}(h:PTo l k) (h0:OkP (pix l k)):PTo l (k+1):=by
  intro j hj
  rcases Nat.lt_succ_iff_lt_or_eq.1 hj with hj | rfl
  · exact h j hj
  · exact h0
set_option maxRecDepth 100000 in
set_option maxHeartbeats 4000000 in
theorem IndexPt_any (w:World) {A:Option Addr}{n c:Nat}{l:List PtD}(h:RdPS w A n c l) :
    Calls Tryz.prog 136 #[.slice A n c,.func (.func 107) #[] #[]] w (IdxPostB (AllP l) w):=by
  have hn:=h.small
  have hl:=Lib.hid h.len
  go_enter Tryz.func136,Tryz.ntmps136
  go_wp2_with fail
  go_loopw [8] (fun i wr=> ∃ k:Nat,k≤n∧i=.int .i64 (k:Int)∧PTo l k∧Bl w wr) (fun i _=> n - (intOf i).toNat)
  case atStart=> exact⟨0,Nat.zero_le _,rfl,PTo.zero _,Bl.refl _⟩
  case round =>
    obtain⟨k,hk,rfl,hin,hbw⟩:=hrel
    by_cases hkn:k < n
    · have hki:(k:Int) < (n:Int):=by omega
      obtain⟨ad,rfl,hlta,hca⟩:=(RdPS.bl h hbw).cells k hkn
      obtain⟨s,A,n',c',B,m,d',t,C,i,e,D,j,f,⟨g0,g1,g2,g3,g4,g5⟩,hx,hy⟩:=hca
      by_cases ho:OkP (pix l k)
      · have hin':=hin.step ho
        have ho:=Lib.hid ho;rename_i h_;clear h_
        clear hin
        go_wp2_with fail
        refine(IsProperF_yes _ hx hy ho.out).mono ?_
        rintro e w1 ⟨rfl,hb1⟩
        have hb2:Bl w w1:=slc
        clear hb1
        go_wp2_with fail
        go_roundw
        case rel=> exact⟨k+1,by omega,by go_num,hin',hb2⟩
        case measure=> simp[intOf];omega
      · have hno:¬ AllP l:=fun ha=> ho (ha k (by rw[hl.out];exact hkn))
        have hno:=Lib.hid hno;rename_i h_;clear h_
        have ho:=Lib.hid ho;rename_i h_;clear h_
        clear hin
        go_wp2_with fail
        refine(IsProperF_no _ hx hy ho.out).mono ?_
        rintro e w1 ⟨rfl,hb1⟩
        have hb2:Bl w w1:=slc
        clear hb1
        go_wp2_with fail
        go_ret
        exact⟨_,rfl,fun ha=> absurd ha hno.out,fun _=> by omega,hb2⟩
    · have hall:AllP l:=fun j hj=> hin j (by rw[hl.out] at hj;omega)
      have hall:=Lib.hid hall;rename_i h_;clear h_
      go_wp2_with fail
      go_ret
      exact⟨_,rfl,fun _=> rfl,fun hno=> absurd hall.out hno,hbw⟩
theorem ContainsPt_yes (w:World) {A:Option Addr}{n c:Nat}{l:List PtD}(h:RdPS w A n c l) (hp:AllP l) :
    Calls Tryz.prog 98 #[.slice A n c,.func (.func 107) #[] #[]] w fun e w'=> e=.returned (.bool false)∧Bl w w':=by
  have hp:=Lib.hid hp;rename_i h_;clear h_
  go_enter Tryz.func98,Tryz.ntmps98
  go_wp2_with fail
  refine(IndexPt_any _ h).mono ?_
  rintro e w1 ⟨i,rfl,h1,_,hb⟩
  have h1:=h1 hp.out
  subst h1
  go_wp2_with fail
  go_ret
  exact⟨rfl,hb⟩
theorem ContainsPt_no (w:World) {A:Option Addr}{n c:Nat}{l:List PtD}(h:RdPS w A n c l) (hp:¬ AllP l) :
    Calls Tryz.prog 98 #[.slice A n c,.func (.func 107) #[] #[]] w fun e w'=> e=.returned (.bool true)∧Bl w w':=by
  have hp:=Lib.hid hp;rename_i h_;clear h_
  go_enter Tryz.func98,Tryz.ntmps98
  go_wp2_with fail
  refine(IndexPt_any _ h).mono ?_
  rintro e w1 ⟨i,rfl,_,h1,hb⟩
  have h1:=h1 hp.out
  go_wp2_with fail
  go_ret
  exact⟨rfl,hb⟩
end

section
open Go.RowKit

/-- Two lists are equal up to place k. -/
def eqTo (a b:List Int):Nat→Bool
  | 0=> true
  | k+1=> eqTo a b k && (ix a k == ix b k)
def eqL (a b:List Int):Bool:=a == b

theorem eqTo_step {xs ys:List Int}{k:Nat}(h:eqTo xs ys k=true) (he:ix xs k=ix ys k):eqTo xs ys (k+1)=true:=by simp[eqTo,h,he]
theorem eqTo_iff {xs ys:List Int}{k:Nat}:eqTo xs ys k=true↔∀ i,i < k→ix xs i=ix ys i:=by
  induction k with
  | zero=> simp[eqTo]
  | succ k ih =>
    simp only[eqTo,Bool.and_eq_true,ih,beq_iff_eq]
    constructor
    · rintro ⟨h1,h2⟩ i hi
      rcases Nat.lt_succ_iff_lt_or_eq.1 hi with h | rfl
      · exact h1 i h
      · exact h2
    · intro h
      exact⟨fun i hi=> h i (by omega),h k (by omega)⟩
theorem eqL_same {xs ys:List Int}(h:xs.length=ys.length):eqL xs ys=eqTo xs ys xs.length:=by
  rw[Bool.eq_iff_iff,eqTo_iff]
  unfold eqL
  rw[beq_iff_eq]
  constructor
  · rintro rfl i _;rfl
  · intro hh
    apply List.ext_getElem h
    intro i h1 h2
    have:=hh i h1
    simpa [ix,h1,h2] using this
theorem eqL_no {xs ys:List Int}{k:Nat}(_h:xs.length=ys.length) (_hk:k < xs.length) (he:¬ ix xs k=ix ys k):eqL xs ys=false:=by
  unfold eqL
  rw[beq_eq_false_iff_ne]
  rintro rfl
  exact he rfl
theorem eqL_len {xs ys:List Int}(h:¬ xs.length=ys.length):eqL xs ys=false:=by
  unfold eqL
  rw[beq_eq_false_iff_ne]
  rintro rfl
  exact h rfl

set_option maxHeartbeats 1600000 in
theorem Equal_int (w:World) {A B:Option Addr}{n m c d:Nat}{xs ys:List Int}(ha:RdI w A n c xs) (hb:RdI w B m d ys) :
    Calls Tryz.prog 161 #[.slice A n c,.slice B m d] w fun e w'=> e=.returned (.bool (eqL xs ys))∧∃ q,w'=w.drewN q:=by
  have hna:=ha.small
  have hnb:=hb.small
  by_cases hnm:n=m
  · subst hnm
    have heq:=Lib.hid (eqL_same (ha.len.trans hb.len.symm));rw[ha.len] at heq
    go_enter Tryz.func161,Tryz.ntmps161
    go_wp2
    go_loopw [13] (fun i wr=> ∃ k:Nat,k≤n∧i=.int .i64 (k:Int)∧Hid (eqTo xs ys k=true)∧∃ q,wr=w.drewN q) (fun i _=> n - (intOf i).toNat)
    case atStart=> exact⟨0,Nat.zero_le _,rfl,rfl,(by first | exact⟨_,rfl⟩ | exact⟨0,rfl⟩ | exact q_drewN ⟨_,rfl⟩ | exact q_drewN (q_drewN ⟨_,rfl⟩))⟩
    case round =>
      obtain⟨k,hk,rfl,hto,q,rfl⟩:=hrel
      by_cases hkn:k < n
      · obtain⟨ad,rfl,hlta,hca⟩:=ha.at_ hkn
        obtain⟨bd,rfl,hltb,hcb⟩:=hb.at_ hkn
        have hki:(k:Int) < (n:Int):=by omega
        by_cases he:ix xs k=ix ys k
        · have hs:=Lib.hid (eqTo_step hto.out he);clear hto
          have hbeq:(ix xs k != ix ys k)=false:=by simp[he]
          clear he
          go_wp2
          go_quiet (fail)
          go_wp2
          go_roundw
          case rel=> exact⟨k+1,by omega,by go_num,hs,(by first | exact⟨_,rfl⟩ | exact⟨0,rfl⟩ | exact q_drewN ⟨_,rfl⟩ | exact q_drewN (q_drewN ⟨_,rfl⟩))⟩
          case measure=> simp[intOf];omega
        · have hs:=Lib.hid (eqL_no (by rw[ha.len,hb.len]) (by rw[ha.len];exact hkn) he);clear hto heq
          have hbeq:(ix xs k != ix ys k)=true:=by simp[he]
          clear he
          go_wp2
          go_quiet (fail)
          go_wp2
          go_ret
          exact⟨ret_bool hs.out.symm,(by first | exact⟨_,rfl⟩ | exact⟨0,rfl⟩ | exact q_drewN ⟨_,rfl⟩ | exact q_drewN (q_drewN ⟨_,rfl⟩))⟩
      · have hkk:k=n:=by omega
        have hs:=Lib.hid (heq.out.trans (hkk ▸ hto.out));clear hto heq hkk
        go_wp2
        go_ret
        exact⟨ret_bool hs.out.symm,(by first | exact⟨_,rfl⟩ | exact⟨0,rfl⟩ | exact q_drewN ⟨_,rfl⟩ | exact q_drewN (q_drewN ⟨_,rfl⟩))⟩
  · have hs:=Lib.hid (eqL_len (xs:=xs) (ys:=ys) (by rw[ha.len,hb.len];exact hnm))
    have hne:((n:Int) != (m:Int))=true:=by simp;omega
    go_enter Tryz.func161,Tryz.ntmps161
    go_wp2
    go_ret
    exact⟨ret_bool hs.out.symm,(by first | exact⟨_,rfl⟩ | exact⟨0,rfl⟩ | exact q_drewN ⟨_,rfl⟩ | exact q_drewN (q_drewN ⟨_,rfl⟩))⟩

set_option maxHeartbeats 1600000 in
theorem l04List_any (w:World) {A B:Option Addr}{n m c d:Nat}{xs ys:List Int}(ha:RdI w A n c xs) (hb:RdI w B m d ys) :
    Calls Tryz.prog 155 #[.slice A n c,.slice B m d] w fun e w'=> e=.returned (.bool (eqL xs ys))∧∃ q,w'=w.drewN q:=by
  have hna:=ha.small
  have hnb:=hb.small
  by_cases hnm:n=m
  · subst hnm
    have heq:=Lib.hid (eqL_same (ha.len.trans hb.len.symm));rw[ha.len] at heq
    go_enter Tryz.func155,Tryz.ntmps155
    go_wp2
    go_loopw [13] (fun i wr=> ∃ k:Nat,k≤n∧i=.int .i64 (k:Int)∧Hid (eqTo xs ys k=true)∧∃ q,wr=w.drewN q) (fun i _=> n - (intOf i).toNat)
    case atStart=> exact⟨0,Nat.zero_le _,rfl,rfl,(by first | exact⟨_,rfl⟩ | exact⟨0,rfl⟩ | exact q_drewN ⟨_,rfl⟩ | exact q_drewN (q_drewN ⟨_,rfl⟩))⟩
    case round =>
      obtain⟨k,hk,rfl,hto,q,rfl⟩:=hrel
      by_cases hkn:k < n
      · obtain⟨ad,rfl,hlta,hca⟩:=ha.at_ hkn
        obtain⟨bd,rfl,hltb,hcb⟩:=hb.at_ hkn
        have hki:(k:Int) < (n:Int):=by omega
        by_cases he:ix xs k=ix ys k
        · have hs:=Lib.hid (eqTo_step hto.out he);clear hto
          have hbeq:(ix xs k != ix ys k)=false:=by simp[he]
          clear he
          go_wp2
          go_quiet (fail)
          go_wp2
          go_roundw
          case rel=> exact⟨k+1,by omega,by go_num,hs,(by first | exact⟨_,rfl⟩ | exact⟨0,rfl⟩ | exact q_drewN ⟨_,rfl⟩ | exact q_drewN (q_drewN ⟨_,rfl⟩))⟩
          case measure=> simp[intOf];omega
        · have hs:=Lib.hid (eqL_no (by rw[ha.len,hb.len]) (by rw[ha.len];exact hkn) he);clear hto heq
          have hbeq:(ix xs k != ix ys k)=true:=by simp[he]
          clear he
          go_wp2
          go_quiet (fail)
          go_wp2
          go_ret
          exact⟨ret_bool hs.out.symm,(by first | exact⟨_,rfl⟩ | exact⟨0,rfl⟩ | exact q_drewN ⟨_,rfl⟩ | exact q_drewN (q_drewN ⟨_,rfl⟩))⟩
      · have hkk:k=n:=by omega
        have hs:=Lib.hid (heq.out.trans (hkk ▸ hto.out));clear hto heq hkk
        go_wp2
        go_ret
        exact⟨ret_bool hs.out.symm,(by first | exact⟨_,rfl⟩ | exact⟨0,rfl⟩ | exact q_drewN ⟨_,rfl⟩ | exact q_drewN (q_drewN ⟨_,rfl⟩))⟩
  · have hs:=Lib.hid (eqL_len (xs:=xs) (ys:=ys) (by rw[ha.len,hb.len];exact hnm))
    have hne:((n:Int) != (m:Int))=true:=by simp;omega
    go_enter Tryz.func155,Tryz.ntmps155
    go_wp2
    go_ret
    exact⟨ret_bool hs.out.symm,(by first | exact⟨_,rfl⟩ | exact⟨0,rfl⟩ | exact q_drewN ⟨_,rfl⟩ | exact q_drewN (q_drewN ⟨_,rfl⟩))⟩
end

section
open Go.RowKit

def eqR (a b:RatD):Bool:=a.neg == b.neg && eqL a.mag b.mag && eqL a.den b.den
theorem eqR_den {r r':RatD}{s s':Bool}(h:s=r.neg) (h':s'=r'.neg) (e0:(s == s')=true) (e1:eqL r.mag r'.mag=true):eqR r r'=eqL r.den r'.den:=by
  unfold eqR;rw[← h,← h',e0,e1];rfl
theorem eqR_mag {r r':RatD}(e1:eqL r.mag r'.mag=false):eqR r r'=false:=by
  unfold eqR;rw[e1];simp
theorem eqR_neg {r r':RatD}{s s':Bool}(h:s=r.neg) (h':s'=r'.neg) (e0:(s == s')=false):eqR r r'=false:=by
  unfold eqR;rw[← h,← h',e0];rfl
def eqP (a b:PtD):Bool:=eqR a.x b.x && eqR a.y b.y
theorem eqP_y {p q:PtD}(e0:eqR p.x q.x=true):eqP p q=eqR p.y q.y:=by unfold eqP;rw[e0];rfl
theorem eqP_x {p q:PtD}(e0:eqR p.x q.x=false):eqP p q=false:=by unfold eqP;rw[e0];rfl

set_option maxHeartbeats 1600000 in
theorem RatEqual_any (w:World) {A B A' B':Option Addr}{n m n' m' c d c' d':Nat}{s s':Bool}{r r':RatD}(h:RdR w s A n c B m d r) (h':RdR w s' A' n' c' B' m' d' r') :
    Calls Tryz.prog 137 #[.agg #[.bool s,.slice A n c,.slice B m d],.agg #[.bool s',.slice A' n' c',.slice B' m' d']] w fun e w'=> e=.returned (.bool (eqR r r'))∧Bl w w':=by
  by_cases e0:(s == s')=true
  · by_cases e1:eqL r.mag r'.mag=true
    · have hs:=Lib.hid (eqR_den h.neg h'.neg e0 e1)
      go_enter Tryz.func137,Tryz.ntmps137
      go_wp2_with fail
      refine(Equal_int _ ((h.mag.alloc _).alloc _) ((h'.mag.alloc _).alloc _)).mono ?_
      rintro e w' ⟨rfl,q,rfl⟩
      go_wp2_with fail
      refine(Equal_int _ (((h.den.alloc _).alloc _).drewN _) (((h'.den.alloc _).alloc _).drewN _)).mono ?_
      rintro e w' ⟨rfl,q',rfl⟩
      go_wp2_with fail
      go_ret
      exact⟨ret_bool hs.out.symm,slc⟩
    · have e1:eqL r.mag r'.mag=false:=by simpa using e1
      have hs:=Lib.hid (eqR_mag e1)
      go_enter Tryz.func137,Tryz.ntmps137
      go_wp2_with fail
      refine(Equal_int _ ((h.mag.alloc _).alloc _) ((h'.mag.alloc _).alloc _)).mono ?_
      rintro e w' ⟨rfl,q,rfl⟩
      go_wp2_with fail
      go_ret
      exact⟨ret_bool hs.out.symm,slc⟩
  · have e0:(s == s')=false:=by simpa using e0
    have hs:=Lib.hid (eqR_neg h.neg h'.neg e0)
    go_enter Tryz.func137,Tryz.ntmps137
    go_wp2_with fail
    go_ret
    exact⟨ret_bool hs.out.symm,slc⟩

set_option maxHeartbeats 1600000 in
theorem sRatEqual_any (w:World) {A B A' B':Option Addr}{n m n' m' c d c' d':Nat}{s s':Bool}{r r':RatD}(h:RdR w s A n c B m d r) (h':RdR w s' A' n' c' B' m' d' r') :
    Calls Tryz.prog 124 #[.agg #[.bool s,.slice A n c,.slice B m d],.agg #[.bool s',.slice A' n' c',.slice B' m' d']] w fun e w'=> e=.returned (.bool (eqR r r'))∧Bl w w':=by
  by_cases e0:(s == s')=true
  · by_cases e1:eqL r.mag r'.mag=true
    · have hs:=Lib.hid (eqR_den h.neg h'.neg e0 e1)
      go_enter Tryz.func124,Tryz.ntmps124
      go_wp2_with fail
      refine(l04List_any _ ((h.mag.alloc _).alloc _) ((h'.mag.alloc _).alloc _)).mono ?_
      rintro e w' ⟨rfl,q,rfl⟩
      go_wp2_with fail
      refine(l04List_any _ (((h.den.alloc _).alloc _).drewN _) (((h'.den.alloc _).alloc _).drewN _)).mono ?_
      rintro e w' ⟨rfl,q',rfl⟩
      go_wp2_with fail
      go_ret
      exact⟨ret_bool hs.out.symm,slc⟩
    · have e1:eqL r.mag r'.mag=false:=by simpa using e1
      have hs:=Lib.hid (eqR_mag e1)
      go_enter Tryz.func124,Tryz.ntmps124
      go_wp2_with fail
      refine(l04List_any _ ((h.mag.alloc _).alloc _) ((h'.mag.alloc _).alloc _)).mono ?_
      rintro e w' ⟨rfl,q,rfl⟩
      go_wp2_with fail
      go_ret
      exact⟨ret_bool hs.out.symm,slc⟩
  · have e0:(s == s')=false:=by simpa using e0
    have hs:=Lib.hid (eqR_neg h.neg h'.neg e0)
    go_enter Tryz.func124,Tryz.ntmps124
    go_wp2_with fail
    go_ret
    exact⟨ret_bool hs.out.symm,slc⟩

set_option maxHeartbeats 1600000 in
theorem SamePoint_any (w:World) {A B A' B':Option Addr}{n m n' m' c d c' d':Nat}{s s':Bool}{C D C' D':Option Addr}{i j i' j' e f e' f':Nat}{t t':Bool}{p q:PtD}
    (h:RdR w s A n c B m d p.x) (k:RdR w t C i e D j f p.y) (h':RdR w s' A' n' c' B' m' d' q.x) (k':RdR w t' C' i' e' D' j' f' q.y) :
    Calls Tryz.prog 100 #[.agg #[.bool s,.slice A n c,.slice B m d,.bool t,.slice C i e,.slice D j f],.agg #[.bool s',.slice A' n' c',.slice B' m' d',.bool t',.slice C' i' e',.slice D' j' f']] w fun e w'=> e=.returned (.bool (eqP p q))∧Bl w w':=by
  by_cases e0:eqR p.x q.x=true
  · have hs:=Lib.hid (eqP_y e0)
    go_enter Tryz.func100,Tryz.ntmps100
    go_wp2_with fail
    refine(RatEqual_any _ ((h.alloc _).alloc _) ((h'.alloc _).alloc _)).mono ?_
    rintro e w1 ⟨rfl,hb⟩
    obtain⟨hc,hf⟩:=bcell hb
    have hb1:Bl w w1:=slc
    go_wp2_with fail
    refine(RatEqual_any _ (k.bl hb1) (k'.bl hb1)).mono ?_
    rintro e w2 ⟨rfl,hb2⟩
    go_wp2_with fail
    go_ret
    exact⟨ret_bool hs.out.symm,slc⟩
  · have e0:eqR p.x q.x=false:=by simpa using e0
    have hs:=Lib.hid (eqP_x e0)
    go_enter Tryz.func100,Tryz.ntmps100
    go_wp2_with fail
    refine(RatEqual_any _ ((h.alloc _).alloc _) ((h'.alloc _).alloc _)).mono ?_
    rintro e w1 ⟨rfl,hb⟩
    go_wp2_with fail
    go_ret
    exact⟨ret_bool hs.out.symm,slc⟩

set_option maxHeartbeats 1600000 in
theorem sSamePoint_any (w:World) {A B A' B':Option Addr}{n m n' m' c d c' d':Nat}{s s':Bool}{C D C' D':Option Addr}{i j i' j' e f e' f':Nat}{t t':Bool}{p q:PtD}
    (h:RdR w s A n c B m d p.x) (k:RdR w t C i e D j f p.y) (h':RdR w s' A' n' c' B' m' d' q.x) (k':RdR w t' C' i' e' D' j' f' q.y) :
    Calls Tryz.prog 79 #[.agg #[.bool s,.slice A n c,.slice B m d,.bool t,.slice C i e,.slice D j f],.agg #[.bool s',.slice A' n' c',.slice B' m' d',.bool t',.slice C' i' e',.slice D' j' f']] w fun e w'=> e=.returned (.bool (eqP p q))∧Bl w w':=by
  by_cases e0:eqR p.x q.x=true
  · have hs:=Lib.hid (eqP_y e0)
    go_enter Tryz.func79,Tryz.ntmps79
    go_wp2_with fail
    refine(sRatEqual_any _ ((h.alloc _).alloc _) ((h'.alloc _).alloc _)).mono ?_
    rintro e w1 ⟨rfl,hb⟩
    obtain⟨hc,hf⟩:=bcell hb
    have hb1:Bl w w1:=slc
    go_wp2_with fail
    refine(sRatEqual_any _ (k.bl hb1) (k'.bl hb1)).mono ?_
    rintro e w2 ⟨rfl,hb2⟩
    go_wp2_with fail
    go_ret
    exact⟨ret_bool hs.out.symm,slc⟩
  · have e0:eqR p.x q.x=false:=by simpa using e0
    have hs:=Lib.hid (eqP_x e0)
    go_enter Tryz.func79,Tryz.ntmps79
    go_wp2_with fail
    refine(sRatEqual_any _ ((h.alloc _).alloc _) ((h'.alloc _).alloc _)).mono ?_
    rintro e w1 ⟨rfl,hb⟩
    go_wp2_with fail
    go_ret
    exact⟨ret_bool hs.out.symm,slc⟩

theorem eqR_iff {a b:RatD}:eqR a b=true↔a=b:=by
  cases a;cases b
  simp[eqR,eqL,and_assoc]
theorem eqP_iff {a b:PtD}:eqP a b=true↔a=b:=by
  cases a;cases b
  simp[eqP,eqR_iff]
theorem eqP_no {a b:PtD}(h:¬ a=b):eqP a b=false:=by
  rw[← Bool.not_eq_true,eqP_iff];exact h
end

section
open Go.RowKit

/-- Only the blocks of bs, and what is new, may have turned. -/
structure Ob (bs:List Nat) (w W:World):Prop where
  os:W.os=w.os
  tape:W.tape=w.tape
  output:W.output=w.output
  size:w.heap.size≤W.heap.size
  block:∀ k,k < w.heap.size→k ∉ bs→W.heap[k]?=w.heap[k]?
section
variable {T:TypeId}{bs cs:List Nat}{w W W2 w0:World}
theorem Ob.refl (bs:List Nat) (w:World):Ob bs w w:=⟨rfl,rfl,rfl,Nat.le_refl _,fun _ _ _=> rfl⟩
theorem Ob.trans (h:Ob bs w W) (k:Ob bs W W2):Ob bs w W2 :=
  ⟨k.os.trans h.os,k.tape.trans h.tape,k.output.trans h.output,Nat.le_trans h.size k.size,fun b hb hn =>(k.block b (Nat.lt_of_lt_of_le hb h.size) hn).trans (h.block b hb hn)⟩
theorem Ob.mono (h:Ob bs w W) (hs:∀ b ∈ bs,b ∈ cs):Ob cs w W:=⟨h.os,h.tape,h.output,h.size,fun b hb hn=> h.block b hb fun hm=> hn (hs b hm)⟩
theorem Ob.set (h:Ob bs w W) {g:Nat}(hg:g ∈ bs) (off:Nat) (u:Value):Ob bs w (W.setCell ⟨g,off,none⟩ u) :=
  ⟨h.os,h.tape,h.output,by simpa [World.setCell] using h.size,fun k hk hn =>(Below.heap_setCell W _ u k (by intro e;exact hn (by rw[e];exact hg))).trans (h.block k hk hn)⟩
theorem Ob.of_bl (h:Bl w W) (bs:List Nat):Ob bs w W:=⟨h.os,h.tape,h.output,h.size,fun k hk _=> h.block k hk⟩
theorem Bl.ob (h:Bl w0 w) (ho:Ob bs w W) (hb:∀ b ∈ bs,w0.heap.size≤b):Bl w0 W :=
  ⟨ho.os.trans h.os,ho.tape.trans h.tape,ho.output.trans h.output,Nat.le_trans h.size ho.size,fun k hk =>(ho.block k (Nat.lt_of_lt_of_le hk h.size) fun hm=> by have:=hb k hm;omega).trans (h.block k hk)⟩
theorem Blk.ob {g:Nat}{xs:Array Value}(h:Blk w g T xs) (ho:Ob bs w W) (hg:g ∉ bs):Blk W g T xs:=(ho.block g h.lt hg).trans h
theorem FtI.ob {A:Option Addr}{n c:Nat}{l:List Int}(h:FtI T w A n c l cs) (ho:Ob bs w W) (hd:∀ b ∈ cs,b ∉ bs):FtI T W A n c l cs:=by
  refine h.keep ho.size fun b hm=> ho.block b ?_ (hd b hm)
  rcases h.2 with ⟨_,e⟩ |⟨g,xs,_,_,hh,_,e⟩
  · rw[e] at hm;cases hm
  · rw[e] at hm;simp at hm;subst hm;exact heap_lt hh
end
/-- The n marks from k on. -/
def marks (k:Int) (n:Nat):List Int:=(List.range n).map fun i:Nat=> k+(i:Int)
theorem marks_len (k:Int) (n:Nat):(marks k n).length=n:=by simp[marks]
theorem ix_marks (k:Int) {n i:Nat}(h:i < n):ix (marks k n) i=k+(i:Int):=by simp[ix,marks,h]
/-- The first i cells hold marks. -/
def Mkd (k:Int) (i:Nat) (cs:Array Value):Prop:=∀ j,j < i→cs[j]?=some (.int .i64 (k+(j:Int)))
theorem Mkd.step {k:Int}{i:Nat}{cs:Array Value}(h:Mkd k i cs) (hi:i < cs.size):Mkd k (i+1) (cs.setIfInBounds i (.int .i64 (k+(i:Int)))):=by
  intro j hj
  rcases Nat.lt_succ_iff_lt_or_eq.1 hj with hj | rfl
  · rw[Array.getElem?_setIfInBounds_ne (by omega)];exact h j hj
  · simp[hi]

set_option maxHeartbeats 1600000 in
theorem markIntS_any {T:TypeId}(w:World) {A:Option Addr}{n c:Nat}{l:List Int}{bs:List Nat}{k0:Int}(h:FtI T w A n c l bs) (hn:n≤1048576) (h0:0≤k0) (h1:k0≤1099511627776) :
    Calls Tryz.prog 32 #[.slice A n c,.int .i64 k0] w fun e w'=> e=.returned (.int .i64 (k0+(n:Int)))∧FtI T w' A n c (marks k0 n) bs∧Ob bs w w':=by
  obtain⟨hr,hft⟩:=h
  have hcap:=hr.cap
  rcases hft with ⟨rfl,rfl⟩ |⟨g,cs,hn0,rfl,hh,hsz,rfl⟩
  · go_enter Tryz.func32,Tryz.ntmps32
    go_wp2_with fail
    go_loopw [1,5] (fun v i wr=> v=.int .i64 k0∧i=.int .i64 0∧wr=w) (fun _ _ _=> 0)
    case atStart=> exact⟨rfl,rfl,rfl⟩
    case round =>
      obtain⟨rfl,rfl,rfl⟩:=hrel
      go_wp2_with fail
      go_ret
      exact⟨by simp,⟨RdI.nil _ _ _,.inl ⟨rfl,rfl⟩⟩,Ob.refl _ _⟩
  · have hB0:Blk w g T cs:=hh
    clear hh hr
    go_enter Tryz.func32,Tryz.ntmps32
    go_wp2_with fail
    go_loopw [1,5] (fun v i wr=> ∃ (k:Nat) (cs':Array Value),k≤n∧i=.int .i64 (k:Int)∧v=.int .i64 (k0+(k:Int))∧Blk wr g T cs'∧cs'.size=cs.size∧Mkd k0 k cs'∧Ob [g] w wr) (fun _ i _=> n - (intOf i).toNat)
    case atStart=> exact⟨0,cs,Nat.zero_le _,rfl,by simp,hB0,rfl,fun j hj=> by omega,Ob.refl _ _⟩
    case round =>
      obtain⟨k,cs',hk,rfl,rfl,hB,hs,hM,hO⟩:=hrel
      have hs:=Lib.hid hs;rename_i h_;clear h_
      by_cases hkn:k < n
      · have hki:(k:Int) < (n:Int):=by omega
        obtain⟨v0,x0⟩:=hB.some (i:=k) (by have:=hs.out;omega)
        have hfr:=hB.frozen k
        go_wp2_with fail
        go_roundw
        case rel=> exact⟨k+1,_,by omega,by go_num,by go_num,hB.set_ _ _,by simp[hs.out],hM.step (by have:=hs.out;omega),hO.set (by simp) _ _⟩
        case measure=> simp[intOf];omega
      · obtain rfl:k=n:=by omega
        have hB2:=hB
        go_wp2_with fail
        go_ret
        refine⟨rfl,⟨⟨marks_len _ _,hcap,by omega,fun j hj =>⟨_,rfl,hB2.lt,?_⟩⟩,?_⟩,hO⟩
        · rw[Addr.add_lit,Nat.zero_add,hB2.cell j,hM j hj,ix_marks k0 hj]
        · exact .inr ⟨g,cs',hn0,rfl,hB2,by have:=hs.out;omega,rfl⟩

set_option maxHeartbeats 1600000 in
theorem heldIntS_any (w:World) {A:Option Addr}{n c:Nat}{k0:Int}(h:RdI w A n c (marks k0 n)) (hn:n≤1048576) (h0:0≤k0) (h1:k0≤1099511627776) :
    Calls Tryz.prog 34 #[.slice A n c,.int .i64 k0] w fun e w'=> e=.returned (.int .i64 (k0+(n:Int)))∧∃ q,w'=w.drewN q:=by
  go_enter Tryz.func34,Tryz.ntmps34
  go_wp2_with fail
  go_loopw [1,5] (fun v i wr=> ∃ k:Nat,k≤n∧i=.int .i64 (k:Int)∧v=.int .i64 (k0+(k:Int))∧∃ q,wr=w.drewN q) (fun _ i _=> n - (intOf i).toNat)
  case atStart=> exact⟨0,Nat.zero_le _,rfl,by simp,0,rfl⟩
  case round =>
    obtain⟨k,hk,rfl,rfl,q,rfl⟩:=hrel
    by_cases hkn:k < n
    · have hki:(k:Int) < (n:Int):=by omega
      obtain⟨ad,rfl,hlt,hc⟩:=h.at_ hkn
      rw[ix_marks k0 hkn] at hc
      have hne:((k0+(k:Int)) != (k0+(k:Int)))=false:=by simp
      go_wp2_with fail
      go_roundw
      case rel=> exact⟨k+1,by omega,by go_num,by go_num,(by first | exact⟨_,rfl⟩ | exact⟨0,rfl⟩ | exact q_drewN ⟨_,rfl⟩ | exact q_drewN (q_drewN ⟨_,rfl⟩))⟩
      case measure=> simp[intOf];omega
    · obtain rfl:k=n:=by omega
      go_wp2_with fail
      go_ret
      exact⟨rfl,(by first | exact⟨_,rfl⟩ | exact⟨0,rfl⟩ | exact q_drewN ⟨_,rfl⟩ | exact q_drewN (q_drewN ⟨_,rfl⟩))⟩
end

end Go.Proofs.YtjaapemopbbfaaaGreat
