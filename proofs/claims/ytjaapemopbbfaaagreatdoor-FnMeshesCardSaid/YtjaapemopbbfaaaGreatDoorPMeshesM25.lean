import Derived.Test.YtjaapemopbbfaaaGreatDoorPMeshesM24
import Derived.ProofKit
import Derived.HandedShaped
import Derived.LaidMore
import Derived.OpenShut
import Derived.Stop.Joined
import Derived.Shelf.Vars
import Derived.Lib.LaidTab
import Derived.Deep.Slices
namespace Go.Proofs.YtjaapemopbbfaaaGreatDoor
open Go.RowKit
set_option maxRecDepth 100000
set_option maxHeartbeats 16000000
theorem kO (r s:qH):Z3 r s=zR\/OkR (Z3 r s):=by
 unfold Z3
 split
 ·rename_i h
  exact YG (Nat.mul_pos h.1.get.2.1 h.2.get.2.1)
 ·exact .inl rfl
theorem kZ (r s:qH):Zs r s=zR\/OkR (Zs r s):=by
 unfold Zs
 split
 ·rename_i h
  exact YG (Nat.mul_pos h.1.get.2.1 h.2.get.2.1)
 ·exact .inl rfl
theorem Y6 (w:World) {s:Bool}{A:Option Addr}{n c:Nat}{B:Option Addr}{m d:Nat}{t:Bool}{C:Option Addr}{i e:Nat}{D:Option Addr}{j f:Nat}{p:PtD}{s':Bool}{A':Option Addr}{n' c':Nat}{B':Option Addr}{m' d':Nat}{t':Bool}{C':Option Addr}{i' e':Nat}{D':Option Addr}{j' f':Nat}{p':PtD}(h:RdR w s A n c B m d p.x) (k:RdR w t C i e D j f p.y) (h':RdR w s' A' n' c' B' m' d' p'.x) (k':RdR w t' C' i' e' D' j' f' p'.y) :
  Calls Tryz.prog 208 #[.agg #[.bool s,.slice A n c,.slice B m d,.bool t,.slice C i e,.slice D j f],.agg #[.bool s',.slice A' n' c',.slice B' m' d',.bool t',.slice C' i' e',.slice D' j' f']] w λen w'=>∃s1 A1 n1 c1 B1 m1 d1 t1 C1 i1 e1 D1 j1 f1,en=.returned (.agg #[.bool s1,.slice A1 n1 c1,.slice B1 m1 d1,.bool t1,.slice C1 i1 e1,.slice D1 j1 f1])/\OwP 3 w.heap.size w' s1 A1 n1 c1 B1 m1 d1 t1 C1 i1 e1 D1 j1 f1 (qdY p p')/\Bl w w':=by
 go_enter Tryz.func208,Tryz.ntmps208
 go_wp2_with fail
 refine qe (λW=>Bl w W/\Blk W (w.heap.size) 28 #[.bool s,.slice A n c,.slice B m d,.bool t,.slice C i e,.slice D j f]/\Blk W (w.heap.size+1) 28 #[.bool s',.slice A' n' c',.slice B' m' d',.bool t',.slice C' i' e',.slice D' j' f']/\Wk 6 28 (w.heap.size+1+1) W) ⟨slc,bts,bts,bts⟩ ?_
 rintro W ⟨hbW,hx,hx',hr⟩
 go_region_held3 (λw'=>(w'.cell? ⟨w.heap.size,0,none⟩=some (.bool s)/\w'.cell? ⟨w.heap.size,1,none⟩=some (.slice A n c)/\w'.cell? ⟨w.heap.size,2,none⟩=some (.slice B m d)/\w'.cell? ⟨w.heap.size,3,none⟩=some (.bool t)/\w'.cell? ⟨w.heap.size,4,none⟩=some (.slice C i e)/\w'.cell? ⟨w.heap.size,5,none⟩=some (.slice D j f))/\(w'.cell? ⟨w.heap.size+1,0,none⟩=some (.bool s')/\w'.cell? ⟨w.heap.size+1,1,none⟩=some (.slice A' n' c')/\w'.cell? ⟨w.heap.size+1,2,none⟩=some (.slice B' m' d')/\w'.cell? ⟨w.heap.size+1,3,none⟩=some (.bool t')/\w'.cell? ⟨w.heap.size+1,4,none⟩=some (.slice C' i' e')/\w'.cell? ⟨w.heap.size+1,5,none⟩=some (.slice D' j' f'))/\(w'.cell? ⟨w.heap.size+1+1,0,none⟩=some (qh w' (w.heap.size+1+1) 0)/\w'.cell? ⟨w.heap.size+1+1,1,none⟩=some (qh w' (w.heap.size+1+1) 1)/\w'.cell? ⟨w.heap.size+1+1,2,none⟩=some (qh w' (w.heap.size+1+1) 2)/\w'.cell? ⟨w.heap.size+1+1,3,none⟩=some (qh w' (w.heap.size+1+1) 3)/\w'.cell? ⟨w.heap.size+1+1,4,none⟩=some (qh w' (w.heap.size+1+1) 4)/\w'.cell? ⟨w.heap.size+1+1,5,none⟩=some (qh w' (w.heap.size+1+1) 5))/\w'.frozen? ⟨w.heap.size+1+1,0,none⟩=false/\w'.frozen? ⟨w.heap.size+1+1,1,none⟩=false/\w'.frozen? ⟨w.heap.size+1+1,2,none⟩=false/\w'.frozen? ⟨w.heap.size+1+1,3,none⟩=false/\w'.frozen? ⟨w.heap.size+1+1,4,none⟩=false/\w'.frozen? ⟨w.heap.size+1+1,5,none⟩=false) (first|exact⟨bx6 (T:=28) bts,bx6 (T:=28) bts,Wk.out6 (T:=28) bts⟩) (first |(go_at_call 93;with_reducible refine(Zo _ (h.bl slc) (h'.bl slc)).mono ?_;rintro en w2 ⟨s2,A2,n2,c2,B2,m2,d2,rfl,hR2,hb2⟩) |(go_at_call 93;with_reducible refine(Zo _ (k.bl slc) (k'.bl slc)).mono ?_;rintro en w3 ⟨s3,A3,n3,c3,B3,m3,d3,rfl,hR3,hb3⟩) |(go_at_call 242;refine(Qr (p:=⟨Z3 p.x p'.x,Z3 p.y p'.y⟩) _ (OwP.two hR2 hR3 hb3 (Bl.size hb2)) (Nat.le_trans (Bl.size hb2) (Bl.size hb3)) (kO _ _) (kO _ _)).mono ?_;rintro en w4 ⟨s1,A1,n1,c1,B1,m1,d1,t1,C1,i1,e1,D1,j1,f1,rfl,hX,hb4⟩))
 have hz:w.heap.size+1+1+1<=W.heap.size:=hr.lt
 have hr:=(show Wk 6 28 (w.heap.size+1+1) w4 from bts)
 have hbW:Bl w w4:=slc
 have hX:=hX.low (show w.heap.size+1+1+1<=W.drew.heap.size from hz)
 obtain⟨v0,x0⟩:=hr.val_ (i:=0) (by omega)
 obtain⟨v1,x1⟩:=hr.val_ (i:=1) (by omega)
 obtain⟨v2,x2⟩:=hr.val_ (i:=2) (by omega)
 obtain⟨v3,x3⟩:=hr.val_ (i:=3) (by omega)
 obtain⟨v4,x4⟩:=hr.val_ (i:=4) (by omega)
 obtain⟨v5,x5⟩:=hr.val_ (i:=5) (by omega)
 have hg:=hr.lt
 obtain⟨cs4,hB4,hc4⟩:=hr
 have hf0:=hB4.frozen 0
 have hf1:=hB4.frozen 1
 have hf2:=hB4.frozen 2
 have hf3:=hB4.frozen 3
 have hf4:=hB4.frozen 4
 have hf5:=hB4.frozen 5
 go_wp2_with fail
 exact bodyPost_ret (v:=.agg #[.bool s1,.slice A1 n1 c1,.slice B1 m1 d1,.bool t1,.slice C1 i1 e1,.slice D1 j1 f1]) (by simp[results,Tryz.results208,go_sem,x0,x1,x2,x3,x4,x5]) rfl ⟨_,_,_,_,_,_,_,_,_,_,_,_,_,_,rfl,((((((hX.far (by simp) _).far (by simp) _).far (by simp) _).far (by simp) _).far (by simp) _).far (by simp) _).low (by omega),slc⟩
theorem J8 (w:World) {s:Bool}{A:Option Addr}{n c:Nat}{B:Option Addr}{m d:Nat}{r:qH}{s':Bool}{A':Option Addr}{n' c':Nat}{B':Option Addr}{m' d':Nat}{t':Bool}{C':Option Addr}{i' e':Nat}{D':Option Addr}{j' f':Nat}{p':PtD}(h:RdR w s A n c B m d r) (h':RdR w s' A' n' c' B' m' d' p'.x) (k':RdR w t' C' i' e' D' j' f' p'.y) :
  Calls Tryz.prog 207 #[.agg #[.bool s,.slice A n c,.slice B m d],.agg #[.bool s',.slice A' n' c',.slice B' m' d',.bool t',.slice C' i' e',.slice D' j' f']] w λen w'=>∃s1 A1 n1 c1 B1 m1 d1 t1 C1 i1 e1 D1 j1 f1,en=.returned (.agg #[.bool s1,.slice A1 n1 c1,.slice B1 m1 d1,.bool t1,.slice C1 i1 e1,.slice D1 j1 f1])/\OwP 3 w.heap.size w' s1 A1 n1 c1 B1 m1 d1 t1 C1 i1 e1 D1 j1 f1 (qdU r p')/\Bl w w':=by
 go_enter Tryz.func207,Tryz.ntmps207
 go_wp2_with fail
 refine qe (λW=>Bl w W/\Blk W (w.heap.size) 26 #[.bool s,.slice A n c,.slice B m d]/\Blk W (w.heap.size+1) 28 #[.bool s',.slice A' n' c',.slice B' m' d',.bool t',.slice C' i' e',.slice D' j' f']/\Wk 6 28 (w.heap.size+1+1) W) ⟨slc,bts,bts,bts⟩ ?_
 rintro W ⟨hbW,hx,hx',hr⟩
 go_region_held3 (λw'=>(w'.cell? ⟨w.heap.size,0,none⟩=some (.bool s)/\w'.cell? ⟨w.heap.size,1,none⟩=some (.slice A n c)/\w'.cell? ⟨w.heap.size,2,none⟩=some (.slice B m d))/\(w'.cell? ⟨w.heap.size+1,0,none⟩=some (.bool s')/\w'.cell? ⟨w.heap.size+1,1,none⟩=some (.slice A' n' c')/\w'.cell? ⟨w.heap.size+1,2,none⟩=some (.slice B' m' d')/\w'.cell? ⟨w.heap.size+1,3,none⟩=some (.bool t')/\w'.cell? ⟨w.heap.size+1,4,none⟩=some (.slice C' i' e')/\w'.cell? ⟨w.heap.size+1,5,none⟩=some (.slice D' j' f'))/\(w'.cell? ⟨w.heap.size+1+1,0,none⟩=some (qh w' (w.heap.size+1+1) 0)/\w'.cell? ⟨w.heap.size+1+1,1,none⟩=some (qh w' (w.heap.size+1+1) 1)/\w'.cell? ⟨w.heap.size+1+1,2,none⟩=some (qh w' (w.heap.size+1+1) 2)/\w'.cell? ⟨w.heap.size+1+1,3,none⟩=some (qh w' (w.heap.size+1+1) 3)/\w'.cell? ⟨w.heap.size+1+1,4,none⟩=some (qh w' (w.heap.size+1+1) 4)/\w'.cell? ⟨w.heap.size+1+1,5,none⟩=some (qh w' (w.heap.size+1+1) 5))/\w'.frozen? ⟨w.heap.size+1+1,0,none⟩=false/\w'.frozen? ⟨w.heap.size+1+1,1,none⟩=false/\w'.frozen? ⟨w.heap.size+1+1,2,none⟩=false/\w'.frozen? ⟨w.heap.size+1+1,3,none⟩=false/\w'.frozen? ⟨w.heap.size+1+1,4,none⟩=false/\w'.frozen? ⟨w.heap.size+1+1,5,none⟩=false) (first|exact⟨bx3 (T:=26) bts,bx6 (T:=28) bts,Wk.out6 (T:=28) bts⟩) (first |(go_at_call 243;with_reducible refine(jy _ (h.bl slc) (h'.bl slc)).mono ?_;rintro en w2 ⟨s2,A2,n2,c2,B2,m2,d2,rfl,hR2,hb2⟩) |(go_at_call 243;with_reducible refine(jy _ (h.bl slc) (k'.bl slc)).mono ?_;rintro en w3 ⟨s3,A3,n3,c3,B3,m3,d3,rfl,hR3,hb3⟩) |(go_at_call 242;refine(Qr (p:=⟨Zs r p'.x,Zs r p'.y⟩) _ (OwP.two hR2 hR3 hb3 (Bl.size hb2)) (Nat.le_trans (Bl.size hb2) (Bl.size hb3)) (kZ _ _) (kZ _ _)).mono ?_;rintro en w4 ⟨s1,A1,n1,c1,B1,m1,d1,t1,C1,i1,e1,D1,j1,f1,rfl,hX,hb4⟩))
 have hz:w.heap.size+1+1+1<=W.heap.size:=hr.lt
 have hr:=(show Wk 6 28 (w.heap.size+1+1) w4 from bts)
 have hbW:Bl w w4:=slc
 have hX:=hX.low (show w.heap.size+1+1+1<=W.drew.heap.size from hz)
 obtain⟨v0,x0⟩:=hr.val_ (i:=0) (by omega)
 obtain⟨v1,x1⟩:=hr.val_ (i:=1) (by omega)
 obtain⟨v2,x2⟩:=hr.val_ (i:=2) (by omega)
 obtain⟨v3,x3⟩:=hr.val_ (i:=3) (by omega)
 obtain⟨v4,x4⟩:=hr.val_ (i:=4) (by omega)
 obtain⟨v5,x5⟩:=hr.val_ (i:=5) (by omega)
 have hg:=hr.lt
 obtain⟨cs4,hB4,hc4⟩:=hr
 have hf0:=hB4.frozen 0
 have hf1:=hB4.frozen 1
 have hf2:=hB4.frozen 2
 have hf3:=hB4.frozen 3
 have hf4:=hB4.frozen 4
 have hf5:=hB4.frozen 5
 go_wp2_with fail
 exact bodyPost_ret (v:=.agg #[.bool s1,.slice A1 n1 c1,.slice B1 m1 d1,.bool t1,.slice C1 i1 e1,.slice D1 j1 f1]) (by simp[results,Tryz.results207,go_sem,x0,x1,x2,x3,x4,x5]) rfl ⟨_,_,_,_,_,_,_,_,_,_,_,_,_,_,rfl,((((((hX.far (by simp) _).far (by simp) _).far (by simp) _).far (by simp) _).far (by simp) _).far (by simp) _).low (by omega),slc⟩
theorem XO (w:World) {s:Bool}{A:Option Addr}{n c:Nat}{B:Option Addr}{m d:Nat}{t:Bool}{C:Option Addr}{i e:Nat}{D:Option Addr}{j f:Nat}{p:PtD}{s':Bool}{A':Option Addr}{n' c':Nat}{B':Option Addr}{m' d':Nat}{t':Bool}{C':Option Addr}{i' e':Nat}{D':Option Addr}{j' f':Nat}{p':PtD}(h:RdR w s A n c B m d p.x) (k:RdR w t C i e D j f p.y) (h':RdR w s' A' n' c' B' m' d' p'.x) (k':RdR w t' C' i' e' D' j' f' p'.y) :
  Calls Tryz.prog 158 #[.agg #[.bool s,.slice A n c,.slice B m d,.bool t,.slice C i e,.slice D j f],.agg #[.bool s',.slice A' n' c',.slice B' m' d',.bool t',.slice C' i' e',.slice D' j' f']] w λen w'=>∃s1 A1 n1 c1 B1 m1 d1 t1 C1 i1 e1 D1 j1 f1,en=.returned (.agg #[.bool s1,.slice A1 n1 c1,.slice B1 m1 d1,.bool t1,.slice C1 i1 e1,.slice D1 j1 f1])/\OwP 3 w.heap.size w' s1 A1 n1 c1 B1 m1 d1 t1 C1 i1 e1 D1 j1 f1 (qdX p p')/\Bl w w':=by
 go_enter Tryz.func158,Tryz.ntmps158
 go_wp2_with fail
 refine qe (λW=>Bl w W/\Blk W (w.heap.size) 28 #[.bool s,.slice A n c,.slice B m d,.bool t,.slice C i e,.slice D j f]/\Blk W (w.heap.size+1) 28 #[.bool s',.slice A' n' c',.slice B' m' d',.bool t',.slice C' i' e',.slice D' j' f']/\Wk 6 28 (w.heap.size+1+1) W) ⟨slc,bts,bts,bts⟩ ?_
 rintro W ⟨hbW,hx,hx',hr⟩
 go_region_held3 (λw'=>(w'.cell? ⟨w.heap.size,0,none⟩=some (.bool s)/\w'.cell? ⟨w.heap.size,1,none⟩=some (.slice A n c)/\w'.cell? ⟨w.heap.size,2,none⟩=some (.slice B m d)/\w'.cell? ⟨w.heap.size,3,none⟩=some (.bool t)/\w'.cell? ⟨w.heap.size,4,none⟩=some (.slice C i e)/\w'.cell? ⟨w.heap.size,5,none⟩=some (.slice D j f))/\(w'.cell? ⟨w.heap.size+1,0,none⟩=some (.bool s')/\w'.cell? ⟨w.heap.size+1,1,none⟩=some (.slice A' n' c')/\w'.cell? ⟨w.heap.size+1,2,none⟩=some (.slice B' m' d')/\w'.cell? ⟨w.heap.size+1,3,none⟩=some (.bool t')/\w'.cell? ⟨w.heap.size+1,4,none⟩=some (.slice C' i' e')/\w'.cell? ⟨w.heap.size+1,5,none⟩=some (.slice D' j' f'))/\(w'.cell? ⟨w.heap.size+1+1,0,none⟩=some (qh w' (w.heap.size+1+1) 0)/\w'.cell? ⟨w.heap.size+1+1,1,none⟩=some (qh w' (w.heap.size+1+1) 1)/\w'.cell? ⟨w.heap.size+1+1,2,none⟩=some (qh w' (w.heap.size+1+1) 2)/\w'.cell? ⟨w.heap.size+1+1,3,none⟩=some (qh w' (w.heap.size+1+1) 3)/\w'.cell? ⟨w.heap.size+1+1,4,none⟩=some (qh w' (w.heap.size+1+1) 4)/\w'.cell? ⟨w.heap.size+1+1,5,none⟩=some (qh w' (w.heap.size+1+1) 5))/\w'.frozen? ⟨w.heap.size+1+1,0,none⟩=false/\w'.frozen? ⟨w.heap.size+1+1,1,none⟩=false/\w'.frozen? ⟨w.heap.size+1+1,2,none⟩=false/\w'.frozen? ⟨w.heap.size+1+1,3,none⟩=false/\w'.frozen? ⟨w.heap.size+1+1,4,none⟩=false/\w'.frozen? ⟨w.heap.size+1+1,5,none⟩=false) (first|exact⟨bx6 (T:=28) bts,bx6 (T:=28) bts,Wk.out6 (T:=28) bts⟩) (first |(go_at_call 94;with_reducible refine(Uv _ 1 2 (by omega) (by omega) (by omega) (by omega)).mono ?_;rintro en w2 ⟨s2,A2,n2,c2,B2,m2,d2,rfl,hR2,hb2⟩) |(go_at_call 208;with_reducible refine(Y6 _ (h.bl slc) (k.bl slc) (h'.bl slc) (k'.bl slc)).mono ?_;rintro en w3 ⟨s3,A3,n3,c3,B3,m3,d3,t3,C3,i3,e3,D3,j3,f3,rfl,hP3,hb3⟩) |(go_at_call 207;refine(J8 _ (hR2.rd.bl slc) (hP3.rx.bl slc) (hP3.ry.bl slc)).mono ?_;rintro en w4 ⟨s1,A1,n1,c1,B1,m1,d1,t1,C1,i1,e1,D1,j1,f1,rfl,hX,hb4⟩;replace hX:=hX.low (show W.drew.heap.size<=_ from Bl.size (by exact slc))))
 have hz:w.heap.size+1+1+1<=W.heap.size:=hr.lt
 have hr:=(show Wk 6 28 (w.heap.size+1+1) w4 from bts)
 have hbW:Bl w w4:=slc
 have hX:=hX.low (show w.heap.size+1+1+1<=W.drew.heap.size from hz)
 obtain⟨v0,x0⟩:=hr.val_ (i:=0) (by omega)
 obtain⟨v1,x1⟩:=hr.val_ (i:=1) (by omega)
 obtain⟨v2,x2⟩:=hr.val_ (i:=2) (by omega)
 obtain⟨v3,x3⟩:=hr.val_ (i:=3) (by omega)
 obtain⟨v4,x4⟩:=hr.val_ (i:=4) (by omega)
 obtain⟨v5,x5⟩:=hr.val_ (i:=5) (by omega)
 have hg:=hr.lt
 obtain⟨cs4,hB4,hc4⟩:=hr
 have hf0:=hB4.frozen 0
 have hf1:=hB4.frozen 1
 have hf2:=hB4.frozen 2
 have hf3:=hB4.frozen 3
 have hf4:=hB4.frozen 4
 have hf5:=hB4.frozen 5
 go_wp2_with fail
 exact bodyPost_ret (v:=.agg #[.bool s1,.slice A1 n1 c1,.slice B1 m1 d1,.bool t1,.slice C1 i1 e1,.slice D1 j1 f1]) (by simp[results,Tryz.results158,go_sem,x0,x1,x2,x3,x4,x5]) rfl ⟨_,_,_,_,_,_,_,_,_,_,_,_,_,_,rfl,((((((hX.far (by simp) _).far (by simp) _).far (by simp) _).far (by simp) _).far (by simp) _).far (by simp) _).low (by omega),slc⟩
def vd (lo:Nat) (w:World) (A:Option Addr) (n c:Nat) (l:List PtD):Prop :=
 (n=0\/∃g,A=some ⟨g,0,none⟩/\lo<=g/\g<w.heap.size)/\∀W:World,w.heap.size<=W.heap.size->(∀b,lo<=b->b<w.heap.size->W.heap[b]?=w.heap[b]?)->qR W A n c l
section
variable {lo lo':Nat}{w W:World}{A:Option Addr}{n c:Nat}{l:List PtD}
theorem vd.rd (h:vd lo w A n c l):qR w A n c l:=h.2 w (Nat.le_refl _) λ_ _ _=>rfl
theorem vd.nil (lo:Nat) (w:World) (A:Option Addr) (c:Nat):vd lo w A 0 c []:=⟨.inl rfl,λ_ _ _=>RdS.nil _ _ _⟩
theorem vd.low (h:vd lo w A n c l) (h1:lo'<=lo):vd lo' w A n c l:=by
 refine⟨?_,λW hs hb=>h.2 W hs λb h2 h3=>hb b (by omega) h3⟩
 rcases h.1 with h0 |⟨g,e,h2,h3⟩
 ·exact .inl h0
 ·exact .inr ⟨g,e,by omega,h3⟩
theorem vd.bl (h:vd lo w A n c l) (hb:Bl w W):vd lo W A n c l:=by
 have hz:=hb.size
 refine⟨?_,λX hs hk=>h.2 X (by omega) λb h2 h3=>(hk b h2 (by omega)).trans (Below.block hb b h3)⟩
 rcases h.1 with h0 |⟨g,e,h2,h3⟩
 ·exact .inl h0
 ·exact .inr ⟨g,e,h2,by omega⟩
theorem vd.of_row {N:List Nat->Prop}{hi:Nat}{v:Value}(h:jK N lo hi w v l) (hl:l.length<=1048576):∃A c,v=.slice A l.length c/\vd lo w A l.length c l:=by
 obtain⟨A,c,hv,hr⟩:=jK.rd h hl
 subst hv
 refine⟨A,c,rfl,?_,λW hs hb=>?_⟩
 ·rcases jK.out h with ⟨e,h0⟩ |⟨g,c',cs,fs,e,h1,h2,h3,h4,h5,_⟩
  ·exact .inl (by rw[h0];rfl)
  ·injection e with e1 e2 e3
   have hg:=h5 g (by simp)
   exact .inr ⟨g,e1,hg.1,h2.lt⟩
 ·obtain⟨A',c',e,h'⟩:=jK.rd (qO.keep (qx 3) h hs λb h1 h2=>hb b h1 (Nat.lt_of_lt_of_le h2 (qO.hiLe h))) hl
  injection e with e1 e2 e3
  subst e1 e3
  exact h'
end
theorem Xr (w:World) {A:Option Addr}{n c:Nat}{B:Option Addr}{m d:Nat}{x:MeD}(k:Int) (h:qR w A n c x.points) (ht:zx w B m d x.tris) (hsz:szL szP x.points<=1048576) :
  Calls Tryz.prog 210 #[.agg #[.slice A n c,.slice B m d],.int .i64 k] w λe w'=>∃A1 n1 c1,e=.returned (.slice A1 n1 c1)/\vd w.heap.size w' A1 n1 c1 (QD x k)/\Bl w w':=by
 have hn:=h.small
 have hm:=ht.small
 go_enter Tryz.func210,Tryz.ntmps210
 go_wp2_with fail
 refine(jn _ _ _ _).mono ?_
 by_cases hin:0<=k/\k<=(m:Int)-1
 ·skip
  rw[decide_eq_true hin.1,decide_eq_true hin.2]
  rintro e w1 ⟨rfl,hq1⟩
  have hb1:Bl (w.alloc (.cells #[.slice A n c,.slice B m d] 49)) w1:=by obtain⟨q1,rfl⟩:=hq1;exact(Bl.refl _).drewN q1
  clear hq1
  obtain⟨kk,rfl⟩:=Int.eq_ofNat_of_zero_le hin.1
  have hkk:kk<m:=by omega
  have hkk2:(kk:Int)<(m:Int):=by omega
  clear hin
  have hx0:Blk w1 w.heap.size 49 #[.slice A n c,.slice B m d]:=bts
  have hbc:Bl w w1:=slc
  have hgw:w.heap.size<w1.heap.size:=hx0.lt
  go_upto_region 4 with (fail)
  refine qe (λW=>jK YQ w1.heap.size (w1.heap.size+1) W (.slice (some ⟨w1.heap.size,0,none⟩) 0 0) []/\Bl w1 W) ⟨qO.empty yr w1 (Nat.le_refl _),slc⟩ ?_
  rintro W ⟨hrow0,hbW⟩
  have hx1:=hx0.bl hbW
  have hgW:=qO.hiLe hrow0
  obtain⟨i0,i1⟩:=bx2 hx1
  obtain⟨ad,eB,hlt,hat⟩:=(zx.bl ht (hbc.next hbW)).cells kk hkk
  subst eB
  obtain⟨ta,hta⟩:∃y,y=(pix x.tris kk).a:=⟨_,rfl⟩
  obtain⟨tb,htb⟩:∃y,y=(pix x.tris kk).b:=⟨_,rfl⟩
  obtain⟨tc,htc⟩:∃y,y=(pix x.tris kk).c:=⟨_,rfl⟩
  obtain⟨tr,htr⟩:∃y,y=(pix x.tris kk).region:=⟨_,rfl⟩
  obtain⟨tv,htv⟩:∃y,y=(pix x.tris kk).level:=⟨_,rfl⟩
  have hst:Hid (pix x.tris kk=⟨ta,tb,tc,tr,tv⟩):=by rw[hta,htb,htc,htr,htv];exact rfl
  obtain⟨f0,f1,f2,f3,f4⟩:=hat
  rw[<-hta]at f0
  rw[<-htb]at f1
  rw[<-htc]at f2
  rw[<-htr]at f3
  rw[<-htv]at f4
  clear hta htb htc htr htv hb1 hx1
  go_wp2_with fail
  refine(vN _ ta tb tc tr tv).mono ?_
  rintro e w2 ⟨gq,rfl,hgq,hq0,hb2⟩
  clear f0 f1 f2 f3 f4 i0 i1 hlt
  go_wp2_with fail
  go_loopw [5,23] (λv i wr=>∃(k hi:Nat),k<=3/\i=.int .i64 (k:Int)/\jK YQ w1.heap.size hi wr v (Q8 x.points ⟨ta,tb,tc,tr,tv⟩ k)/\kd n ⟨ta,tb,tc,tr,tv⟩ k/\Bl w1 wr/\w1.heap.size<=hi/\Blk wr gq 3 #[.int .i64 ta,.int .i64 tb,.int .i64 tc]/\v.ownBlock≠some gq) (λ_ i _=>3-(intOf i).toNat)
  case atStart=>exact⟨0,w1.heap.size+1,by omega,rfl,qO.bl (qx 3) hrow0 hb2,λj hj=>by omega,hbW.next hb2,by omega,hq0,λe=>by injection e with e;simp only at e;omega⟩
  case round=>
   clear hb2 hrow0 hgW hbW hq0 hgq
   obtain⟨k,hi,hk,rfl,hrow,hok,hbw,hlh,hq,hvq⟩:=hrel
   rcases(show k=0\/k=1\/k=2\/k=3 by omega)with rfl|rfl|rfl|rfl
   ·skip
    have e0:((0:Nat):Int)=0:=rfl
    rw[e0]
    clear e0 hk
    have hw:IntKind.i64.wrap 1=1:=by rfl
    have hhi0:=qO.hiLe hrow
    have hzo:=Bl.size hbw
    have hx:=hx0.bl hbw
    obtain⟨i0,i1⟩:=bx2 hx
    obtain⟨y0,y1,y2⟩:=bx3 hq
    go_wp2_with fail
    refine(jn _ _ _ _).mono ?_
    by_cases hin:0<=ta/\ta<=(n:Int)-1
    ·skip
     rw[decide_eq_true hin.1,decide_eq_true hin.2]
     rintro e w2 ⟨rfl,hq2⟩
     have hb2:Bl wr w2:=by obtain⟨q2,rfl⟩:=hq2;exact slc
     clear hq2
     have hok':kd n ⟨ta,tb,tc,tr,tv⟩ 1:=hok.step hin
     clear hok
     obtain⟨ka,rfl⟩:=Int.eq_ofNat_of_zero_le hin.1
     have hka:ka<n:=by omega
     clear hin
     have hok':=Lib.hid hok';rename_i h_;clear h_
     have hka2:(ka:Int)<(n:Int):=by omega
     have hX2:=hx.bl hb2
     have hrow2:=qO.bl (qx 3) hrow hb2
     clear hx hrow i0 i1
     obtain⟨i0,i1⟩:=bx2 hX2
     obtain⟨ad,eA,hlt,hat⟩:=(qR.bl h ((hbc.next hbw).next hb2)).cells ka hka
     have hpz:=vG szP x.points (k:=ka) (by rw[h.len];exact hka)
     have hcs:=Lib.hid (jA x.points ⟨(ka:Int),tb,tc,tr,tv⟩ 0)
     have hcs2:pix x.points (jE ⟨(ka:Int),tb,tc,tr,tv⟩ 0).toNat=pix x.points ka:=rfl
     rw[hcs2]at hcs
     clear hcs2
     generalize pix x.points ka=pk at hcs hat hpz
     subst eA
     obtain⟨s2,A2,n2,c2,B2,m2,d2,t2,C2,i2,e2,D2,j2,f2,⟨g0,g1,g2,g3,g4,g5⟩,hX,hY⟩:=hat
     have l1:=Lib.hid hX.mag.len;have l2:=Lib.hid hX.den.len;have l3:=Lib.hid hY.mag.len;have l4:=Lib.hid hY.den.len
     have hsm:n2<=1048576/\m2<=1048576/\i2<=1048576/\j2<=1048576:=by
      have a1:=l1.out;have a2:=l2.out;have a3:=l3.out;have a4:=l4.out
      simp only[szP,szR]at hpz
      omega
     clear hpz
     go_wp2_with fail
     refine(Qh _ hX hY hsm.1 hsm.2.1 hsm.2.2.1 hsm.2.2.2).mono ?_
     rintro e w3 ⟨s1,A1,n1,c1,B1,m1,d1,t1,C1,i1',e1,D1,j1,f1,rfl,hP,hb3⟩
     have hrow3:=qO.bl (qx 3) hrow2 hb3
     have hq3:=(hq.bl hb2).bl hb3
     have hb4:=(hbw.next hb2).next hb3
     have hhi3:hi<=w2.heap.size:=Nat.le_trans hhi0 (Bl.size hb2)
     skip
     clear hrow2 hX2
     go_wp2_with ((refine qT yr rfl (.tmp 34) (.tmp 41) rfl _ (by rfl) hrow3 hP hhi3 hlh 1 (by rfl) (by rw[zA];omega) w1 hb4 (Nat.le_refl _) ?_;intro v' w8 hrow' hb8' hoth;clear hrow3 hP))
     have hz8:=hb8'.size
     rw[<-hcs.out]at hrow'
     have hq8:=hq3.past2 hoth hvq
     go_roundw
     case rel=>exact⟨1,_,by omega,rfl,hrow',hok'.out,hb8',hz8,hq8.1,hq8.2⟩
     case measure=>simp[intOf]
    ·skip
     have hnb:(decide (0<=ta) && decide (ta<=(n:Int) - 1))=false:=by
      rw[Bool.and_eq_false_iff]
      rcases Decidable.not_and_iff_or_not.1 hin with h'|h'
      ·exact .inl (decide_eq_false h')
      ·exact .inr (decide_eq_false h')
     rw[hnb]
     clear hnb
     rintro e w2 ⟨rfl,hq2⟩
     have hb2:Bl wr w2:=by obtain⟨q2,rfl⟩:=hq2;exact slc
     clear hq2
     have hv:=Lib.hid <| show QD x ((kk:Nat):Int)=[]from if_neg λha=>hin (by have this:0<=jE (pix x.tris kk) 0/\jE (pix x.tris kk) 0<=(x.points.length:Int)-1:=ha.2 0 (by omega);rw[hst.out,h.len]at this;exact this)
     replace hin:=Lib.hid hin
     clear hok
     go_wp2_with fail
     go_ret
     rw[hv.out]
     exact⟨_,_,_,rfl,vd.nil _ _ _ _,(hbc.next hbw).next hb2⟩
   ·skip
    have e0:((1:Nat):Int)=1:=rfl
    rw[e0]
    clear e0 hk
    have hw:IntKind.i64.wrap 2=2:=by rfl
    have hhi0:=qO.hiLe hrow
    have hzo:=Bl.size hbw
    have hx:=hx0.bl hbw
    obtain⟨i0,i1⟩:=bx2 hx
    obtain⟨y0,y1,y2⟩:=bx3 hq
    go_wp2_with fail
    refine(jn _ _ _ _).mono ?_
    by_cases hin:0<=tb/\tb<=(n:Int)-1
    ·skip
     rw[decide_eq_true hin.1,decide_eq_true hin.2]
     rintro e w2 ⟨rfl,hq2⟩
     have hb2:Bl wr w2:=by obtain⟨q2,rfl⟩:=hq2;exact slc
     clear hq2
     have hok':kd n ⟨ta,tb,tc,tr,tv⟩ 2:=hok.step hin
     clear hok
     obtain⟨ka,rfl⟩:=Int.eq_ofNat_of_zero_le hin.1
     have hka:ka<n:=by omega
     clear hin
     have hok':=Lib.hid hok';rename_i h_;clear h_
     have hka2:(ka:Int)<(n:Int):=by omega
     have hX2:=hx.bl hb2
     have hrow2:=qO.bl (qx 3) hrow hb2
     clear hx hrow i0 i1
     obtain⟨i0,i1⟩:=bx2 hX2
     obtain⟨ad,eA,hlt,hat⟩:=(qR.bl h ((hbc.next hbw).next hb2)).cells ka hka
     have hpz:=vG szP x.points (k:=ka) (by rw[h.len];exact hka)
     have hcs:=Lib.hid (jA x.points ⟨ta,(ka:Int),tc,tr,tv⟩ 1)
     have hcs2:pix x.points (jE ⟨ta,(ka:Int),tc,tr,tv⟩ 1).toNat=pix x.points ka:=rfl
     rw[hcs2]at hcs
     clear hcs2
     generalize pix x.points ka=pk at hcs hat hpz
     subst eA
     obtain⟨s2,A2,n2,c2,B2,m2,d2,t2,C2,i2,e2,D2,j2,f2,⟨g0,g1,g2,g3,g4,g5⟩,hX,hY⟩:=hat
     have l1:=Lib.hid hX.mag.len;have l2:=Lib.hid hX.den.len;have l3:=Lib.hid hY.mag.len;have l4:=Lib.hid hY.den.len
     have hsm:n2<=1048576/\m2<=1048576/\i2<=1048576/\j2<=1048576:=by
      have a1:=l1.out;have a2:=l2.out;have a3:=l3.out;have a4:=l4.out
      simp only[szP,szR]at hpz
      omega
     clear hpz
     go_wp2_with fail
     refine(Qh _ hX hY hsm.1 hsm.2.1 hsm.2.2.1 hsm.2.2.2).mono ?_
     rintro e w3 ⟨s1,A1,n1,c1,B1,m1,d1,t1,C1,i1',e1,D1,j1,f1,rfl,hP,hb3⟩
     have hrow3:=qO.bl (qx 3) hrow2 hb3
     have hq3:=(hq.bl hb2).bl hb3
     have hb4:=(hbw.next hb2).next hb3
     have hhi3:hi<=w2.heap.size:=Nat.le_trans hhi0 (Bl.size hb2)
     skip
     clear hrow2 hX2
     go_wp2_with ((refine qT yr rfl (.tmp 34) (.tmp 41) rfl _ (by rfl) hrow3 hP hhi3 hlh 1 (by rfl) (by rw[zA];omega) w1 hb4 (Nat.le_refl _) ?_;intro v' w8 hrow' hb8' hoth;clear hrow3 hP))
     have hz8:=hb8'.size
     rw[<-hcs.out]at hrow'
     have hq8:=hq3.past2 hoth hvq
     go_roundw
     case rel=>exact⟨2,_,by omega,rfl,hrow',hok'.out,hb8',hz8,hq8.1,hq8.2⟩
     case measure=>simp[intOf]
    ·skip
     have hnb:(decide (0<=tb) && decide (tb<=(n:Int) - 1))=false:=by
      rw[Bool.and_eq_false_iff]
      rcases Decidable.not_and_iff_or_not.1 hin with h'|h'
      ·exact .inl (decide_eq_false h')
      ·exact .inr (decide_eq_false h')
     rw[hnb]
     clear hnb
     rintro e w2 ⟨rfl,hq2⟩
     have hb2:Bl wr w2:=by obtain⟨q2,rfl⟩:=hq2;exact slc
     clear hq2
     have hv:=Lib.hid <| show QD x ((kk:Nat):Int)=[]from if_neg λha=>hin (by have this:0<=jE (pix x.tris kk) 1/\jE (pix x.tris kk) 1<=(x.points.length:Int)-1:=ha.2 1 (by omega);rw[hst.out,h.len]at this;exact this)
     replace hin:=Lib.hid hin
     clear hok
     go_wp2_with fail
     go_ret
     rw[hv.out]
     exact⟨_,_,_,rfl,vd.nil _ _ _ _,(hbc.next hbw).next hb2⟩
   ·skip
    have e0:((2:Nat):Int)=2:=rfl
    rw[e0]
    clear e0 hk
    have hw:IntKind.i64.wrap 3=3:=by rfl
    have hhi0:=qO.hiLe hrow
    have hzo:=Bl.size hbw
    have hx:=hx0.bl hbw
    obtain⟨i0,i1⟩:=bx2 hx
    obtain⟨y0,y1,y2⟩:=bx3 hq
    go_wp2_with fail
    refine(jn _ _ _ _).mono ?_
    by_cases hin:0<=tc/\tc<=(n:Int)-1
    ·skip
     rw[decide_eq_true hin.1,decide_eq_true hin.2]
     rintro e w2 ⟨rfl,hq2⟩
     have hb2:Bl wr w2:=by obtain⟨q2,rfl⟩:=hq2;exact slc
     clear hq2
     have hok':kd n ⟨ta,tb,tc,tr,tv⟩ 3:=hok.step hin
     clear hok
     obtain⟨ka,rfl⟩:=Int.eq_ofNat_of_zero_le hin.1
     have hka:ka<n:=by omega
     clear hin
     have hok':=Lib.hid hok';rename_i h_;clear h_
     have hka2:(ka:Int)<(n:Int):=by omega
     have hX2:=hx.bl hb2
     have hrow2:=qO.bl (qx 3) hrow hb2
     clear hx hrow i0 i1
     obtain⟨i0,i1⟩:=bx2 hX2
     obtain⟨ad,eA,hlt,hat⟩:=(qR.bl h ((hbc.next hbw).next hb2)).cells ka hka
     have hpz:=vG szP x.points (k:=ka) (by rw[h.len];exact hka)
     have hcs:=Lib.hid (jA x.points ⟨ta,tb,(ka:Int),tr,tv⟩ 2)
     have hcs2:pix x.points (jE ⟨ta,tb,(ka:Int),tr,tv⟩ 2).toNat=pix x.points ka:=rfl
     rw[hcs2]at hcs
     clear hcs2
     generalize pix x.points ka=pk at hcs hat hpz
     subst eA
     obtain⟨s2,A2,n2,c2,B2,m2,d2,t2,C2,i2,e2,D2,j2,f2,⟨g0,g1,g2,g3,g4,g5⟩,hX,hY⟩:=hat
     have l1:=Lib.hid hX.mag.len;have l2:=Lib.hid hX.den.len;have l3:=Lib.hid hY.mag.len;have l4:=Lib.hid hY.den.len
     have hsm:n2<=1048576/\m2<=1048576/\i2<=1048576/\j2<=1048576:=by
      have a1:=l1.out;have a2:=l2.out;have a3:=l3.out;have a4:=l4.out
      simp only[szP,szR]at hpz
      omega
     clear hpz
     go_wp2_with fail
     refine(Qh _ hX hY hsm.1 hsm.2.1 hsm.2.2.1 hsm.2.2.2).mono ?_
     rintro e w3 ⟨s1,A1,n1,c1,B1,m1,d1,t1,C1,i1',e1,D1,j1,f1,rfl,hP,hb3⟩
     have hrow3:=qO.bl (qx 3) hrow2 hb3
     have hq3:=(hq.bl hb2).bl hb3
     have hb4:=(hbw.next hb2).next hb3
     have hhi3:hi<=w2.heap.size:=Nat.le_trans hhi0 (Bl.size hb2)
     skip
     clear hrow2 hX2
     go_wp2_with ((refine qT yr rfl (.tmp 34) (.tmp 41) rfl _ (by rfl) hrow3 hP hhi3 hlh 1 (by rfl) (by rw[zA];omega) w1 hb4 (Nat.le_refl _) ?_;intro v' w8 hrow' hb8' hoth;clear hrow3 hP))
     have hz8:=hb8'.size
     rw[<-hcs.out]at hrow'
     have hq8:=hq3.past2 hoth hvq
     go_roundw
     case rel=>exact⟨3,_,by omega,rfl,hrow',hok'.out,hb8',hz8,hq8.1,hq8.2⟩
     case measure=>simp[intOf]
    ·skip
     have hnb:(decide (0<=tc) && decide (tc<=(n:Int) - 1))=false:=by
      rw[Bool.and_eq_false_iff]
      rcases Decidable.not_and_iff_or_not.1 hin with h'|h'
      ·exact .inl (decide_eq_false h')
      ·exact .inr (decide_eq_false h')
     rw[hnb]
     clear hnb
     rintro e w2 ⟨rfl,hq2⟩
     have hb2:Bl wr w2:=by obtain⟨q2,rfl⟩:=hq2;exact slc
     clear hq2
     have hv:=Lib.hid <| show QD x ((kk:Nat):Int)=[]from if_neg λha=>hin (by have this:0<=jE (pix x.tris kk) 2/\jE (pix x.tris kk) 2<=(x.points.length:Int)-1:=ha.2 2 (by omega);rw[hst.out,h.len]at this;exact this)
     replace hin:=Lib.hid hin
     clear hok
     go_wp2_with fail
     go_ret
     rw[hv.out]
     exact⟨_,_,_,rfl,vd.nil _ _ _ _,(hbc.next hbw).next hb2⟩
   ·skip
    have e0:((3:Nat):Int)=3:=rfl
    rw[e0]
    clear e0 hk
    have hv:QD x ((kk:Nat):Int)=Q8 x.points ⟨ta,tb,tc,tr,tv⟩ 3:=by
     unfold QD
     rw[show ((kk:Nat):Int).toNat=kk from rfl,hst.out,if_pos ⟨⟨by omega,by rw[ht.len];omega⟩,by rw[h.len];exact hok⟩]
    replace hv:=Lib.hid hv
    replace hok:=Lib.hid hok
    obtain⟨A1,c1,rfl,hZ⟩:=vd.of_row hrow (by rw[zA];omega)
    have hhi0:=qO.hiLe hrow
    rw[zA]at hZ ⊢
    clear hrow
    go_wp2_with fail
    go_ret
    rw[hv.out]
    exact⟨_,_,_,rfl,hZ.low (Bl.size hbc),hbc.next hbw⟩
 ·skip
  have hnb:(decide (0<=k) && decide (k<=(m:Int) - 1))=false:=by
   rw[Bool.and_eq_false_iff]
   rcases Decidable.not_and_iff_or_not.1 hin with h'|h'
   ·exact .inl (decide_eq_false h')
   ·exact .inr (decide_eq_false h')
  rw[hnb]
  clear hnb
  rintro e w1 ⟨rfl,hq1⟩
  have hb1:Bl (w.alloc (.cells #[.slice A n c,.slice B m d] 49)) w1:=by obtain⟨q1,rfl⟩:=hq1;exact(Bl.refl _).drewN q1
  clear hq1
  have hv:=Lib.hid <| show QD x k=[]from if_neg λha=>hin (by have:=ha.1;rw[ht.len]at this;exact this)
  replace hin:=Lib.hid hin
  go_wp2_with fail
  go_ret
  rw[hv.out]
  exact⟨_,_,_,rfl,vd.nil _ _ _ _,slc⟩
theorem jm (w:World) {g n c0:Nat}{l:List PtD}(h:qR w (some ⟨g,0,none⟩) n c0 l) (hp:Q5 l=true) :
  Calls Tryz.prog 211 #[.slice (some ⟨g,0,none⟩) n c0] w λe w'=>e=.returned (.bool (Q5 l))/\Bl w w':=by
 obtain⟨_,p0,p1,p2,q1,_⟩:=Yr hp
 subst q1
 obtain rfl:3=n:=h.len
 obtain⟨v0,v1,v2,hs⟩:=X6 (Classical.byContradiction λhk=>by rw[qae hk]at hp;cases hp)
 exact Xm w h v0 v1 v2 (zM (Ut hs)) (by unfold Hid;rw[hp];simp[hs])
theorem V4 (w:World) {g n c g' n' c':Nat}{l m:List PtD}(ha:qR w (some ⟨g,0,none⟩) n c l) (hb:qR w (some ⟨g',0,none⟩) n' c' m) (e1:Q5 l=true) (e2:Q5 m=true) :
  Calls Tryz.prog 214 #[.slice (some ⟨g,0,none⟩) n c,.slice (some ⟨g',0,none⟩) n' c'] w λe w'=>e=.returned (.bool (ovB l m))/\Bl w w':=by
 have hbb:=Bl.refl w
 obtain⟨_,p0,p1,p2,q1,_⟩:=Yr e1
 obtain⟨_,q0,q1',q2,q2',_⟩:=Yr e2
 subst q1
 subst q2'
 obtain rfl:3=n:=ha.len
 obtain rfl:3=n':=hb.len
 cases e3:U9 [p0,p1,p2] [q0,q1',q2]
 ·cases e4:U9 [q0,q1',q2] [p0,p1,p2]
  all_goals
   replace e1:=Lib.hid e1
   replace e2:=Lib.hid e2
   replace e3:=Lib.hid e3
   replace e4:=Lib.hid e4
   go_enter Tryz.func214,Tryz.ntmps214
   go_wp2_with fail
   refine(jm _ (qR.bl ha hbb) e1.out).mono ?_
   rw[e1.out]
   rintro e w1 ⟨rfl,hb1⟩
   replace hbb:=hbb.next hb1
   clear hb1
   go_wp2_with fail
   refine(jm _ (qR.bl hb hbb) e2.out).mono ?_
   rw[e2.out]
   rintro e w1 ⟨rfl,hb1⟩
   replace hbb:=hbb.next hb1
   clear hb1
   go_wp2_with fail
   refine(yF _ (qR.bl ha hbb) (qR.bl hb hbb)).mono ?_
   rw[e3.out]
   rintro e w1 ⟨rfl,hb1⟩
   replace hbb:=hbb.next hb1
   clear hb1
   go_wp2_with fail
   refine(yF _ (qR.bl hb hbb) (qR.bl ha hbb)).mono ?_
   rw[e4.out]
   rintro e w1 ⟨rfl,hb1⟩
   replace hbb:=hbb.next hb1
   clear hb1
   go_wp2_with fail
   go_ret
   exact⟨qq (by unfold ovB;simp[e1.out,e2.out,e3.out,e4.out]),hbb⟩
 ·replace e1:=Lib.hid e1
  replace e2:=Lib.hid e2
  replace e3:=Lib.hid e3
  go_enter Tryz.func214,Tryz.ntmps214
  go_wp2_with fail
  refine(jm _ (qR.bl ha hbb) e1.out).mono ?_
  rw[e1.out]
  rintro e w1 ⟨rfl,hb1⟩
  replace hbb:=hbb.next hb1
  clear hb1
  go_wp2_with fail
  refine(jm _ (qR.bl hb hbb) e2.out).mono ?_
  rw[e2.out]
  rintro e w1 ⟨rfl,hb1⟩
  replace hbb:=hbb.next hb1
  clear hb1
  go_wp2_with fail
  refine(yF _ (qR.bl ha hbb) (qR.bl hb hbb)).mono ?_
  rw[e3.out]
  rintro e w1 ⟨rfl,hb1⟩
  replace hbb:=hbb.next hb1
  clear hb1
  go_wp2_with fail
  go_ret
  exact⟨qq (by unfold ovB;simp[e1.out,e2.out,e3.out]),hbb⟩
theorem qaC {x y:qC}(h:¬x=y):(x.a == y.a)=false\/((x.a == y.a)=true/\(x.b == y.b)=false)\/((x.a == y.a)=true/\(x.b == y.b)=true/\(x.c == y.c)=false) \/
  ((x.a == y.a)=true/\(x.b == y.b)=true/\(x.c == y.c)=true/\(x.region == y.region)=false)\/((x.a == y.a)=true/\(x.b == y.b)=true/\(x.c == y.c)=true/\(x.region == y.region)=true/\(x.level == y.level)=false):=by
 cases x;cases y
 simp only[qC.mk.injEq,not_and]at h
 simp only[beq_iff_eq,beq_eq_false_iff_ne]
 grind
theorem V6 (w:World) {A B:Option Addr}{n m c d:Nat}{l l':List qC}(ha:zx w A n c l) (hb:zx w B m d l') :
  Calls Tryz.prog 64 #[.slice A n c,.slice B m d] w λe w'=>e=.returned (.bool (U8 l l'))/\Bl w w':=by
 have hna:=ha.small
 have hnb:=hb.small
 by_cases hnm:n=m
 ·subst hnm
  have hl:=Lib.hid ha.len
  have hl':=Lib.hid hb.len
  go_enter Tryz.func64,Tryz.ntmps64
  go_wp2
  go_loopw [13] (λi wr=>∃k:Nat,k<=n/\i=.int .i64 (k:Int)/\Yp l l' k/\Bl w wr) (λi _=>n-(intOf i).toNat)
  case atStart=>exact⟨0,Nat.zero_le _,rfl,Yp.zero _ _,Bl.refl _⟩
  case round=>
   obtain⟨k,hk,rfl,hag,hbw⟩:=hrel
   by_cases hkn:k<n
   ·obtain⟨ad,rfl,hlta,hca⟩:=(ha.bl hbw).cells k hkn
    obtain⟨bd,rfl,hltb,hcb⟩:=(hb.bl hbw).cells k hkn
    obtain⟨g0,g1,g2,g3,g4⟩:=hca
    obtain⟨p0,p1,p2,p3,p4⟩:=hcb
    have hki:(k:Int)<(n:Int):=by omega
    by_cases heq:pix l k=pix l' k
    ·rw[<-heq]at p0 p1 p2 p3 p4
     have heq':=Lib.hid heq
     clear heq
     go_wp2_with fail
     go_quiet (fail)
     go_wp2
     go_roundw
     case rel=>exact⟨k+1,by omega,by go_num,hag.step heq'.out,slc⟩
     case measure=>simp[intOf];omega
    ·have hs:=Lib.hid (Vi (a:=l) (b:=l') (λe=>heq (by rw[e])))
     rcases qaC heq with f1 |⟨f1,f2⟩ |⟨f1,f2,f3⟩ |⟨f1,f2,f3,f4⟩ |⟨f1,f2,f3,f4,f5⟩
     all_goals
      clear heq
      go_wp2_with fail
      go_quiet (fail)
      go_wp2
      go_ret
      exact⟨qq hs.out.symm,slc⟩
   ·have hs := Lib.hid (uy ((by
                     obtain rfl : k = n := by omega
                     exact hag.all hl.out hl'.out):l=l'))
    go_wp2_with fail
    go_ret
    exact⟨qq hs.out.symm,hbw⟩
 ·have hs:=Lib.hid (Vi (a:=l) (b:=l') (λe=>hnm (by rw[<-ha.len,<-hb.len,e])))
  have hne:((n:Int) != (m:Int))=true:=by simp;omega
  go_enter Tryz.func64,Tryz.ntmps64
  go_wp2
  go_ret
  exact⟨qq hs.out.symm,Bl.refl _⟩
def XX (a b:MeD):Bool:=U8 a.points b.points&&U8 a.tris b.tris
theorem UP {a b:MeD}(h:U8 a.points b.points=true):XX a b=U8 a.tris b.tris:=by unfold XX;rw[h];rfl
theorem xQ {a b:MeD}(h:U8 a.points b.points=false):XX a b=false:=by unfold XX;rw[h];rfl
theorem xV (w:World) {A B A' B':Option Addr}{n m c d n' m' c' d':Nat}{x y:MeD}(h:qR w A n c x.points) (k:zx w B m d x.tris) (h':qR w A' n' c' y.points) (k':zx w B' m' d' y.tris) :
  Calls Tryz.prog 29 #[.agg #[.slice A n c,.slice B m d],.agg #[.slice A' n' c',.slice B' m' d']] w λe w'=>e=.returned (.bool (XX x y))/\Bl w w':=by
 by_cases e0:U8 x.points y.points=true
 ·have hs:=Lib.hid (UP e0)
  go_enter Tryz.func29,Tryz.ntmps29
  go_wp2_with fail
  refine(Zw _ (h.bl slc) (h'.bl slc)).mono ?_
  rintro e w1 ⟨rfl,hb⟩
  obtain⟨hc,hf⟩:=zr hb
  have hb1:Bl w w1:=slc
  go_wp2_with fail
  refine(V6 _ (k.bl hb1) (k'.bl hb1)).mono ?_
  rintro e w2 ⟨rfl,hb2⟩
  go_wp2_with fail
  go_ret
  exact⟨qq hs.out.symm,slc⟩
 ·have e0:U8 x.points y.points=false:=by simpa using e0
  have hs:=Lib.hid (xQ e0)
  go_enter Tryz.func29,Tryz.ntmps29
  go_wp2_with fail
  refine(Zw _ (h.bl slc) (h'.bl slc)).mono ?_
  rintro e w1 ⟨rfl,hb⟩
  have hb1:Bl w w1:=slc
  go_wp2_with fail
  go_ret
  exact⟨qq hs.out.symm,slc⟩
section
open Go.ChangeShapes Go.WideShapes Go.ChangeAt Go.RowKit
open Go.ChangeMaps (open_string shut_string)
theorem Tryz.own:ownKnob Tryz.prog.godebug=none:=by kernel_rfl
theorem Tryz.laidOut:laidOutB Tryz.prog=true:=by kernel_rfl
theorem XJ {H:Type}{enc:TypeId × Value->H}{a:Assume}{C:Checked}{os:Os}{f:FuncId}{fn:Func}{s:ChangeSpec}{conds:List PathCond}{apart fresh handsOn again:Bool}{X:World->Array Value->Prop}
  (hX:∀(w w':World) (args:Array Value),w.heap=w'.heap->X w args->X w' args)
  (own:ownKnob C.prog.godebug=none) (started:os.Started) (noInit:C.prog.inits.idxOf? f=none) (hfn:C.prog.funcs[f]?=some fn)
  (witness : ∃ (w : World) (tape : Tape) (i : Input), w.os = os /\ (w.forCall tape i).Shaped C.prog /\ i.vars = [] /\ Input.okWide C.prog (w.forCall tape i) .any w.heap.size f i /\
   ((s.pre enc C.prog fn conds apart (w.forCall tape i).memory i.args/\X (w.forCall tape i).memory i.args)/\sizedMet enc C.prog fn (OpenSpec.ofChange s) apart (w.forCall tape i).memory i.args)/\a.holds C.prog (lone (Frame.enter C.prog f i.args .normal) [] (w.forCall tape i)))
  (contract:∀(W:World) (base:Nat) (args:Array Value) (ds gs:List (DataW H)) (before:List MemPlace),
   (∀(j:Nat) t v,fn.params[j]?=some t->args[j]?=some v->Value.okWide C.prog W .any base t v) ->
   DataW.Whole enc C.prog fn.params.toList s.vars apart W args.toList ds gs before->X W args->W.ShapedOpen C.prog ->
   Calls C.prog f args W λe W'=>∃v,e=.returned v/\s.post enc C.prog fn apart fresh handsOn again W args v W') :
  ReturnsInHanded a C os f .any (λw args=>(s.pre enc C.prog fn conds apart w args/\X w args)/\sizedMet enc C.prog fn (OpenSpec.ofChange s) apart w args) (s.post enc C.prog fn apart fresh handsOn again):=by
 refine returnsInHanded_of_calls own started noInit witness ?_
 intro w tape i _ hsh _ hok hpre _
 obtain⟨_,_,_,fn',hfn',_,_,_,_,hval⟩:=hok
 have e:fn'=fn:=Option.some.inj (hfn'.symm.trans hfn)
 subst e
 obtain⟨⟨⟨ds,gs,before,hw,_⟩,hx⟩,_⟩:=hpre
 have hw':=DataW.Whole.of_heap (w':=w.forCall tape i) (by rfl) hw
 refine(contract (w.forCall tape i) w.heap.size i.args ds gs before hval hw' (hX _ _ _ (by rfl) hx) hsh).mono λe W' ⟨v,he,hp⟩=>?_
 subst he
 exact ChangeSpec.post_blind hp
def qeE:List (String × DataW Unit):=Rows.fnExactParsePointRow.laid
theorem Env.of {W:World}(h:laidMetH Tryz.prog qeE W) (hsh:W.ShapedOpen Tryz.prog):Env W:=by
 rw[MakeChecks.laidMetH_plain _ _ _ (by kernel_rfl)]at h
 obtain⟨ps,⟨g0,t0,cs0,f0,p0,q0,_,_,_,_,⟨g1,t1,cs1,f1,p1,q1,_,_,_,_,⟨g2,t2,cs2,f2,p2,q2,hg2,ht2,hv2,hd2,_,_⟩,_⟩,_⟩,_,_⟩:=h
 refine⟨?_,cell_of_shapedOpen_int (zero:=#[.int .i64 0]) (t:=3) hsh (of_decide_eq_true (by kernel_rfl)) (by kernel_rfl) rfl (by kernel_rfl) (by kernel_rfl) Tryz.underlying3⟩
 have e2 : Tryz.prog.globalNamed "internal/strconv.uint64pow10" = some 5 := by kernel_rfl
 obtain rfl:=Option.some.inj (e2.symm.trans hg2)
 have et:(Tryz.prog.globals[5]?).map (·.type)=some 254:=by kernel_rfl
 obtain rfl:=Option.some.inj (et.symm.trans ht2)
 unfold Lib.TabIs
 rw[hv2]
 have hc:cs2.toList=Lib.pow10Tab.map λz=>Value.int .u64 z:=Lib.cells_of_tab (n:=20) (e:=167) Tryz.underlying254 Tryz.underlying167 (by kernel_rfl) (by kernel_rfl) (show DataW.trod _ Tryz.prog W 0 _ false f2 254 cs2.toList=some (Lib.tabData .u64 Lib.pow10Tab,p2)from hd2)
 rw[<-hc]
end
section
open Go.RowKit Go.ChangeShapes
open Go.Deep (open_slice open_slice1 choose_lt)
theorem qaD:Tryz.prog.cellsOf 5=1:=by kernel_rfl
theorem qcF {H:Type}{enc:TypeId × Value->H}{w:World}{fuel:Nat}{cs:List Value}{x:DataW H × List MemPlace}{spare:Nat->Bool}{base:Nat}{held:Bool}(h:DataW.trod enc Tryz.prog w base spare held fuel 34 cs=some x):∃A n c l,cs=[.slice A n c]/\RdB w A n c l:=by
 rcases open_slice1 Tryz.underlying34 qaD h with ⟨rfl,_⟩ |⟨a,len,cap,m,k,V,D,Pl,rfl,hb,hl,hm,hmm,_,hx⟩
 ·exact⟨none,0,0,[],rfl,RdS.nil w _ _⟩
 ·have hm':cap<=9223372036854775807:=by simpa [maxLen]using hm
  have hlm:len<=m:=by rw[hmm];split <;> omega
  refine⟨some a,len,cap,(List.range len).map λi=>intOf (V i),rfl,by simp,hl,by omega,λi hi=>?_⟩
  obtain⟨hc,ht⟩:=hx i (by omega)
  obtain⟨z,e,_,hwf⟩:=DataW.trod_int Tryz.underlying5 ht
  injection e with e
  have hlt:a.block < w.heap.size:=by
   have:=World.block_lt_of_cell? w _ hc
   rwa [qQ]at this
  have hz:0<=z/\z<=255:=by
   have h1:IntKind.u8.min=0:=by decide
   have h2:IntKind.u8.max=255:=by decide
   simp only[Lit.wf,h1,h2,Bool.and_eq_true,decide_eq_true_eq]at hwf
   exact hwf
  refine⟨a,rfl,hlt,?_⟩
  have hpx:pix ((List.range len).map λi=>intOf (V i)) i=z:=by simp[pix,hi,e,intOf]
  rw[hpx,Nat.mul_one]
  exact⟨by rw[hc,e],hz⟩
end
end Go.Proofs.YtjaapemopbbfaaaGreatDoor
