/- Lemmas. -/
import Derived.Test.YtjaapemopbbfaaaGreatRows
import Derived.Test.YtjaapemopbbfaaaGreatPWorstShapeM11
import Derived.Test.YtjaapemopbbfaaaGreatPWorstShapeM12
namespace Go.Proofs.YtjaapemopbbfaaaGreat
section
open Go.RowKit

/-- The zero point: what is not valid. -/
def zP:PtD:=⟨zR,zR⟩
def ifP (p:PtD):PtD:=if p.x.den.length=0∨p.y.den.length=0 then zP else p
noncomputable def subP (p q:PtD):PtD:=ifP ⟨subR p.x q.x,subR p.y q.y⟩
noncomputable def crossP (p q:PtD):RatD:=subR (mulR p.x q.y) (mulR p.y q.x)
noncomputable def dblA (a b c:PtD):RatD:=crossP (subP b a) (subP c a)
def OkP (p:PtD):Prop:=OkR p.x∧OkR p.y
theorem isRat_yes (w:World) {s:Bool}{A:Option Addr}{n c:Nat}{B:Option Addr}{m d:Nat}(hm:0 < m) :
    Calls Tryz.prog 142 #[.agg #[.bool s,.slice A n c,.slice B m d]] w fun e w'=> e=.returned (.bool true)∧Bl w w':=by
  go_enter Tryz.func142,Tryz.ntmps142
  go_wp2_with fail
  go_ret
  exact⟨rfl,slc⟩
theorem isRat_no (w:World) {s:Bool}{A:Option Addr}{n c:Nat}{B:Option Addr}{m d:Nat}(hm:m=0) :
    Calls Tryz.prog 142 #[.agg #[.bool s,.slice A n c,.slice B m d]] w fun e w'=> e=.returned (.bool false)∧Bl w w':=by
  subst hm
  go_enter Tryz.func142,Tryz.ntmps142
  go_wp2_with fail
  go_ret
  exact⟨rfl,slc⟩

set_option maxRecDepth 100000 in
set_option maxHeartbeats 4000000 in
theorem ifPoint_yes (w:World) {s:Bool}{A:Option Addr}{n c:Nat}{B:Option Addr}{m d:Nat}{t:Bool}{C:Option Addr}{i e:Nat}{D:Option Addr}{j f:Nat}(hm:0 < m) (hj:0 < j) :
    Calls Tryz.prog 110 #[.agg #[.bool s,.slice A n c,.slice B m d,.bool t,.slice C i e,.slice D j f]] w fun en w'=> en=.returned (.agg #[.bool s,.slice A n c,.slice B m d,.bool t,.slice C i e,.slice D j f])∧Bl w w':=by
  go_enter Tryz.func110,Tryz.ntmps110
  go_wp2_with fail
  refine calls_gen (fun W=> Bl w W∧Blk W (w.heap.size) 76 #[.bool s,.slice A n c,.slice B m d,.bool t,.slice C i e,.slice D j f]∧Wk 6 76 (w.heap.size+1) W) ⟨slc,bts,bts⟩ ?_
  rintro W ⟨hbW,hx,hr⟩
  refine(isRat_yes _ hm).mono ?_
  rintro e1 w1 ⟨rfl,hb1⟩
  have hx:=hx.bl hb1
  have hr:=hr.bl hb1
  have hbW:=hbW.next hb1
  clear hb1
  obtain⟨i0,i1,i2,i3,i4,i5⟩:=bx6 hx
  go_wp2_with fail
  refine(isRat_yes _ hj).mono ?_
  rintro e2 w2 ⟨rfl,hb2⟩
  have hx:=hx.bl hb2
  have hr:=hr.bl hb2
  have hbW:=hbW.next hb2
  clear hb2
  obtain⟨i0,i1,i2,i3,i4,i5⟩:=bx6 hx
  obtain⟨v0,x0⟩:=hr.val_ (i:=0) (by omega)
  obtain⟨v1,x1⟩:=hr.val_ (i:=1) (by omega)
  obtain⟨v2,x2⟩:=hr.val_ (i:=2) (by omega)
  obtain⟨v3,x3⟩:=hr.val_ (i:=3) (by omega)
  obtain⟨v4,x4⟩:=hr.val_ (i:=4) (by omega)
  obtain⟨v5,x5⟩:=hr.val_ (i:=5) (by omega)
  have hg:=hr.lt
  obtain⟨cs4,hB4,hc4⟩:=hr
  have hf0:=hB4.frozen 0
  have hf1:=hB4.frozen 1
  have hf2:=hB4.frozen 2
  have hf3:=hB4.frozen 3
  have hf4:=hB4.frozen 4
  have hf5:=hB4.frozen 5
  go_wp2_with fail
  exact bodyPost_ret (v:=.agg #[.bool s,.slice A n c,.slice B m d,.bool t,.slice C i e,.slice D j f]) (by simp[results,Tryz.results110,go_sem,x0,x1,x2,x3,x4,x5]) rfl ⟨rfl,slc⟩
set_option maxRecDepth 100000 in
set_option maxHeartbeats 4000000 in
theorem ifPoint_no (w:World) {s:Bool}{A:Option Addr}{n c:Nat}{B:Option Addr}{m d:Nat}{t:Bool}{C:Option Addr}{i e:Nat}{D:Option Addr}{j f:Nat}(hmj:m=0∨j=0) :
    Calls Tryz.prog 110 #[.agg #[.bool s,.slice A n c,.slice B m d,.bool t,.slice C i e,.slice D j f]] w fun en w'=> en=.returned (.agg #[.bool false,.slice none 0 0,.slice none 0 0,.bool false,.slice none 0 0,.slice none 0 0])∧Bl w w':=by
  rcases Nat.eq_zero_or_pos m with h0 | h0
  · clear hmj
    have h0:=Lib.hid h0;rename_i h_;clear h_
    go_enter Tryz.func110,Tryz.ntmps110
    go_wp2_with fail
    refine calls_gen (fun W=> Bl w W∧Blk W (w.heap.size) 76 #[.bool s,.slice A n c,.slice B m d,.bool t,.slice C i e,.slice D j f]∧Wk 6 76 (w.heap.size+1) W) ⟨slc,bts,bts⟩ ?_
    rintro W ⟨hbW,hx,hr⟩
    refine(isRat_no _ h0.out).mono ?_
    rintro e1 w1 ⟨rfl,hb1⟩
    have hx:=hx.bl hb1
    have hr:=hr.bl hb1
    have hbW:=hbW.next hb1
    clear hb1
    obtain⟨i0,i1,i2,i3,i4,i5⟩:=bx6 hx
    obtain⟨v0,x0⟩:=hr.val_ (i:=0) (by omega)
    obtain⟨v1,x1⟩:=hr.val_ (i:=1) (by omega)
    obtain⟨v2,x2⟩:=hr.val_ (i:=2) (by omega)
    obtain⟨v3,x3⟩:=hr.val_ (i:=3) (by omega)
    obtain⟨v4,x4⟩:=hr.val_ (i:=4) (by omega)
    obtain⟨v5,x5⟩:=hr.val_ (i:=5) (by omega)
    have hg:=hr.lt
    obtain⟨cs4,hB4,hc4⟩:=hr
    have hf0:=hB4.frozen 0
    have hf1:=hB4.frozen 1
    have hf2:=hB4.frozen 2
    have hf3:=hB4.frozen 3
    have hf4:=hB4.frozen 4
    have hf5:=hB4.frozen 5
    go_wp2_with fail
    exact bodyPost_ret (v:=.agg #[.bool false,.slice none 0 0,.slice none 0 0,.bool false,.slice none 0 0,.slice none 0 0]) (by simp[results,Tryz.results110,go_sem,x0,x1,x2,x3,x4,x5]) rfl ⟨rfl,slc⟩
  · have h1:j=0:=by omega
    clear hmj
    have h1:=Lib.hid h1;rename_i h_;clear h_
    go_enter Tryz.func110,Tryz.ntmps110
    go_wp2_with fail
    refine calls_gen (fun W=> Bl w W∧Blk W (w.heap.size) 76 #[.bool s,.slice A n c,.slice B m d,.bool t,.slice C i e,.slice D j f]∧Wk 6 76 (w.heap.size+1) W) ⟨slc,bts,bts⟩ ?_
    rintro W ⟨hbW,hx,hr⟩
    refine(isRat_yes _ h0).mono ?_
    rintro e1 w1 ⟨rfl,hb1⟩
    have hx:=hx.bl hb1
    have hr:=hr.bl hb1
    have hbW:=hbW.next hb1
    clear hb1
    obtain⟨i0,i1,i2,i3,i4,i5⟩:=bx6 hx
    go_wp2_with fail
    refine(isRat_no _ h1.out).mono ?_
    rintro e2 w2 ⟨rfl,hb2⟩
    have hx:=hx.bl hb2
    have hr:=hr.bl hb2
    have hbW:=hbW.next hb2
    clear hb2
    obtain⟨i0,i1,i2,i3,i4,i5⟩:=bx6 hx
    obtain⟨v0,x0⟩:=hr.val_ (i:=0) (by omega)
    obtain⟨v1,x1⟩:=hr.val_ (i:=1) (by omega)
    obtain⟨v2,x2⟩:=hr.val_ (i:=2) (by omega)
    obtain⟨v3,x3⟩:=hr.val_ (i:=3) (by omega)
    obtain⟨v4,x4⟩:=hr.val_ (i:=4) (by omega)
    obtain⟨v5,x5⟩:=hr.val_ (i:=5) (by omega)
    have hg:=hr.lt
    obtain⟨cs4,hB4,hc4⟩:=hr
    have hf0:=hB4.frozen 0
    have hf1:=hB4.frozen 1
    have hf2:=hB4.frozen 2
    have hf3:=hB4.frozen 3
    have hf4:=hB4.frozen 4
    have hf5:=hB4.frozen 5
    go_wp2_with fail
    exact bodyPost_ret (v:=.agg #[.bool false,.slice none 0 0,.slice none 0 0,.bool false,.slice none 0 0,.slice none 0 0]) (by simp[results,Tryz.results110,go_sem,x0,x1,x2,x3,x4,x5]) rfl ⟨rfl,slc⟩
theorem OwP.zero (T:TypeId) (b0:Nat) (w:World):OwP T b0 w false none 0 0 none 0 0 false none 0 0 none 0 0 zP :=
  ⟨[],[],⟨rfl,[],[],⟨RdI.nil _ _ _,.inl ⟨rfl,rfl⟩⟩,⟨RdI.nil _ _ _,.inl ⟨rfl,rfl⟩⟩,rfl⟩,⟨rfl,[],[],⟨RdI.nil _ _ _,.inl ⟨rfl,rfl⟩⟩,⟨RdI.nil _ _ _,.inl ⟨rfl,rfl⟩⟩,rfl⟩,Fp.nil _ _⟩
section
variable {T:TypeId}{b0:Nat}{w W:World}{s:Bool}{A:Option Addr}{n c:Nat}{B:Option Addr}{m d:Nat}{t:Bool}{C:Option Addr}{i e:Nat}{D:Option Addr}{j f:Nat}{p:PtD}
theorem OwP.bl (h:OwP T b0 w s A n c B m d t C i e D j f p) (hb:Bl w W):OwP T b0 W s A n c B m d t C i e D j f p:=by
  obtain⟨b1,b2,h1,h2,hf⟩:=h
  exact⟨b1,b2,h1.bl hb,h2.bl hb,hf.mono (Nat.le_refl _) hb.size⟩
theorem OwP.rx (h:OwP T b0 w s A n c B m d t C i e D j f p):RdR w s A n c B m d p.x:=by
  obtain⟨b1,b2,h1,h2,hf⟩:=h
  exact h1.rd
theorem OwP.ry (h:OwP T b0 w s A n c B m d t C i e D j f p):RdR w t C i e D j f p.y:=by
  obtain⟨b1,b2,h1,h2,hf⟩:=h
  exact h2.rd
end
theorem ifPoint_any (w:World) {b0:Nat}{s:Bool}{A:Option Addr}{n c:Nat}{B:Option Addr}{m d:Nat}{t:Bool}{C:Option Addr}{i e:Nat}{D:Option Addr}{j f:Nat}{p:PtD}(h:OwP 3 b0 w s A n c B m d t C i e D j f p) :
    Calls Tryz.prog 110 #[.agg #[.bool s,.slice A n c,.slice B m d,.bool t,.slice C i e,.slice D j f]] w fun en w'=> ∃ s1 A1 n1 c1 B1 m1 d1 t1 C1 i1 e1 D1 j1 f1,en=.returned (.agg #[.bool s1,.slice A1 n1 c1,.slice B1 m1 d1,.bool t1,.slice C1 i1 e1,.slice D1 j1 f1])∧OwP 3 b0 w' s1 A1 n1 c1 B1 m1 d1 t1 C1 i1 e1 D1 j1 f1 (ifP p)∧Bl w w':=by
  have l1:=h.rx.den.len
  have l2:=h.ry.den.len
  by_cases hz:m=0∨j=0
  · have e:ifP p=zP:=by unfold ifP;rw[l1,l2,if_pos hz]
    rw[e]
    refine(ifPoint_no w hz).mono ?_
    rintro en w' ⟨rfl,hb⟩
    exact⟨_,_,_,_,_,_,_,_,_,_,_,_,_,_,rfl,OwP.zero _ _ _,hb⟩
  · have e:ifP p=p:=by unfold ifP;rw[l1,l2,if_neg hz]
    rw[e]
    refine(ifPoint_yes w (by omega) (by omega)).mono ?_
    rintro en w' ⟨rfl,hb⟩
    exact⟨_,_,_,_,_,_,_,_,_,_,_,_,_,_,rfl,h.bl hb,hb⟩

set_option maxRecDepth 100000 in
set_option maxHeartbeats 8000000 in
theorem SubtractPoints_any (w:World) {s:Bool}{A:Option Addr}{n c:Nat}{B:Option Addr}{m d:Nat}{t:Bool}{C:Option Addr}{i e:Nat}{D:Option Addr}{j f:Nat}{p:PtD}{s':Bool}{A':Option Addr}{n' c':Nat}{B':Option Addr}{m' d':Nat}{t':Bool}{C':Option Addr}{i' e':Nat}{D':Option Addr}{j' f':Nat}{p':PtD}(h:RdR w s A n c B m d p.x) (k:RdR w t C i e D j f p.y) (h':RdR w s' A' n' c' B' m' d' p'.x) (k':RdR w t' C' i' e' D' j' f' p'.y) :
    Calls Tryz.prog 65 #[.agg #[.bool s,.slice A n c,.slice B m d,.bool t,.slice C i e,.slice D j f],.agg #[.bool s',.slice A' n' c',.slice B' m' d',.bool t',.slice C' i' e',.slice D' j' f']] w fun en w'=> ∃ s1 A1 n1 c1 B1 m1 d1 t1 C1 i1 e1 D1 j1 f1,en=.returned (.agg #[.bool s1,.slice A1 n1 c1,.slice B1 m1 d1,.bool t1,.slice C1 i1 e1,.slice D1 j1 f1])∧OwP 3 w.heap.size w' s1 A1 n1 c1 B1 m1 d1 t1 C1 i1 e1 D1 j1 f1 (subP p p')∧Bl w w':=by
  go_enter Tryz.func65,Tryz.ntmps65
  go_wp2_with fail
  refine wp_gen (fun W=> Bl w W∧Blk W (w.heap.size) 76 #[.bool s,.slice A n c,.slice B m d,.bool t,.slice C i e,.slice D j f]∧Blk W (w.heap.size+1) 76 #[.bool s',.slice A' n' c',.slice B' m' d',.bool t',.slice C' i' e',.slice D' j' f']∧Wk 6 76 (w.heap.size+1+1) W) ⟨slc,bts,bts,bts⟩ ?_
  rintro W ⟨hbW,hx,hx',hr⟩
  go_region_held3 (fun w' =>(w'.cell? ⟨w.heap.size,0,none⟩=some (.bool s)∧w'.cell? ⟨w.heap.size,1,none⟩=some (.slice A n c)∧w'.cell? ⟨w.heap.size,2,none⟩=some (.slice B m d)∧w'.cell? ⟨w.heap.size,3,none⟩=some (.bool t)∧w'.cell? ⟨w.heap.size,4,none⟩=some (.slice C i e)∧w'.cell? ⟨w.heap.size,5,none⟩=some (.slice D j f))∧(w'.cell? ⟨w.heap.size+1,0,none⟩=some (.bool s')∧w'.cell? ⟨w.heap.size+1,1,none⟩=some (.slice A' n' c')∧w'.cell? ⟨w.heap.size+1,2,none⟩=some (.slice B' m' d')∧w'.cell? ⟨w.heap.size+1,3,none⟩=some (.bool t')∧w'.cell? ⟨w.heap.size+1,4,none⟩=some (.slice C' i' e')∧w'.cell? ⟨w.heap.size+1,5,none⟩=some (.slice D' j' f'))∧(w'.cell? ⟨w.heap.size+1+1,0,none⟩=some (cellD w' (w.heap.size+1+1) 0)∧w'.cell? ⟨w.heap.size+1+1,1,none⟩=some (cellD w' (w.heap.size+1+1) 1)∧w'.cell? ⟨w.heap.size+1+1,2,none⟩=some (cellD w' (w.heap.size+1+1) 2)∧w'.cell? ⟨w.heap.size+1+1,3,none⟩=some (cellD w' (w.heap.size+1+1) 3)∧w'.cell? ⟨w.heap.size+1+1,4,none⟩=some (cellD w' (w.heap.size+1+1) 4)∧w'.cell? ⟨w.heap.size+1+1,5,none⟩=some (cellD w' (w.heap.size+1+1) 5))∧w'.frozen? ⟨w.heap.size+1+1,0,none⟩=false∧w'.frozen? ⟨w.heap.size+1+1,1,none⟩=false∧w'.frozen? ⟨w.heap.size+1+1,2,none⟩=false∧w'.frozen? ⟨w.heap.size+1+1,3,none⟩=false∧w'.frozen? ⟨w.heap.size+1+1,4,none⟩=false∧w'.frozen? ⟨w.heap.size+1+1,5,none⟩=false) (first | exact⟨bx6 (T:=76) bts,bx6 (T:=76) bts,Wk.out6 (T:=76) bts⟩) (first |(go_at_call 111;with_reducible refine(RatSub_any _ (h.bl slc) (h'.bl slc)).mono ?_;rintro en w2 ⟨s2,A2,n2,c2,B2,m2,d2,rfl,hR2,hb2⟩) |(go_at_call 111;with_reducible refine(RatSub_any _ (k.bl slc) (k'.bl slc)).mono ?_;rintro en w3 ⟨s3,A3,n3,c3,B3,m3,d3,rfl,hR3,hb3⟩) |(go_at_call 110;refine(ifPoint_any (p:=⟨subR p.x p'.x,subR p.y p'.y⟩) _ (OwP.two hR2 hR3 hb3 (Bl.size hb2))).mono ?_;rintro en w4 ⟨s1,A1,n1,c1,B1,m1,d1,t1,C1,i1,e1,D1,j1,f1,rfl,hX,hb4⟩))
  have hz:w.heap.size+1+1+1≤W.heap.size:=hr.lt
  have hr:=(show Wk 6 76 (w.heap.size+1+1) w4 from bts)
  have hbW:Bl w w4:=slc
  have hX:=hX.low (show w.heap.size+1+1+1≤W.drew.heap.size from hz)
  obtain⟨v0,x0⟩:=hr.val_ (i:=0) (by omega)
  obtain⟨v1,x1⟩:=hr.val_ (i:=1) (by omega)
  obtain⟨v2,x2⟩:=hr.val_ (i:=2) (by omega)
  obtain⟨v3,x3⟩:=hr.val_ (i:=3) (by omega)
  obtain⟨v4,x4⟩:=hr.val_ (i:=4) (by omega)
  obtain⟨v5,x5⟩:=hr.val_ (i:=5) (by omega)
  have hg:=hr.lt
  obtain⟨cs4,hB4,hc4⟩:=hr
  have hf0:=hB4.frozen 0
  have hf1:=hB4.frozen 1
  have hf2:=hB4.frozen 2
  have hf3:=hB4.frozen 3
  have hf4:=hB4.frozen 4
  have hf5:=hB4.frozen 5
  go_wp2_with fail
  exact bodyPost_ret (v:=.agg #[.bool s1,.slice A1 n1 c1,.slice B1 m1 d1,.bool t1,.slice C1 i1 e1,.slice D1 j1 f1]) (by simp[results,Tryz.results65,go_sem,x0,x1,x2,x3,x4,x5]) rfl ⟨_,_,_,_,_,_,_,_,_,_,_,_,_,_,rfl,((((((hX.far (by simp) _).far (by simp) _).far (by simp) _).far (by simp) _).far (by simp) _).far (by simp) _).low (by omega),slc⟩
end

section
open Go.RowKit

theorem cmpR_val {r s:RatD}(h:OkR r∧OkR s):cmpR r s=cmpZ (rn r * (rd s:Int)) (rn s * (rd r:Int)):=if_pos h
end

end Go.Proofs.YtjaapemopbbfaaaGreat
