/- Lemmas. -/
import Derived.Test.YtjaapemopbbfaaaGreatRows
import Derived.Test.YtjaapemopbbfaaaGreatPWorstShapeM33
import Derived.Test.YtjaapemopbbfaaaGreatPWorstShapeM23
import Derived.Test.YtjaapemopbbfaaaGreatPWorstShapeM22
import Derived.Test.YtjaapemopbbfaaaGreatPWorstShapeM24
import Derived.Test.YtjaapemopbbfaaaGreatPWorstShapeM25
import Derived.Test.YtjaapemopbbfaaaGreatPWorstShapeM02
import Derived.ProofKit
import Derived.Deep.Slices
namespace Go.Proofs.YtjaapemopbbfaaaGreat
section
open Go.RowKit

theorem len24_divR (r s:RatD):(divR r s).mag.length≤24∧(divR r s).den.length≤24:=by
  unfold divR
  split
  · exact len24_ofFrac _ _
  · exact len24_zR
theorem len24_shapeL (l:List PtD):(shapeL l).mag.length≤24∧(shapeL l).den.length≤24:=by
  unfold shapeL
  split
  · exact len24_divR _ _
  · exact len24_zR
end

section
open Go.RowKit

set_option maxHeartbeats 1600000 in
theorem szTriS_any (w:World) {A:Option Addr}{n c:Nat}{l:List TriD}(h:RdTS w A n c l) {left:Int}(h0:0≤left) (h1:left≤1099511627776) :
    Calls Tryz.prog 14 #[.slice A n c,.int .i64 left] w fun e w'=> e=.returned (.int .i64 (lft left l.length))∧Bl w w':=by
  have hn:=h.small
  have hl:=Lib.hid h.len
  by_cases hc:(n:Int)≤left
  · have hs:=Lib.hid (lft_yes hc)
    go_enter Tryz.func14,Tryz.ntmps14
    go_wp2
    go_ret
    exact⟨ret_int (by rw[hl.out];exact hs.out.symm),Bl.refl _⟩
  · have hs:=Lib.hid (lft_no hc)
    go_enter Tryz.func14,Tryz.ntmps14
    go_wp2
    go_ret
    exact⟨ret_int (by rw[hl.out];exact hs.out.symm),Bl.refl _⟩

set_option maxHeartbeats 4000000 in
theorem szMesh_any (w:World) {A B:Option Addr}{n c m d:Nat}{x:MeD}(h:RdPS w A n c x.points) (k:RdTS w B m d x.tris) {left:Int}(h0:0≤left) (h1:left≤1099511627776) :
    Calls Tryz.prog 4 #[.agg #[.slice A n c,.slice B m d],.int .i64 left] w fun e w'=> e=.returned (.int .i64 (lft left (szM x)))∧Bl w w':=by
  by_cases c0:((szL szP x.points:Nat):Int)≤left
  · have e0:lft (left) (szL szP x.points)=left - ((szL szP x.points:Nat):Int):=lft_yes c0
    by_cases c1:((x.tris.length:Nat):Int)≤left - ((szL szP x.points:Nat):Int)
    · have e1:lft (left - ((szL szP x.points:Nat):Int)) (x.tris.length)=left - ((szL szP x.points:Nat):Int) - ((x.tris.length:Nat):Int):=lft_yes c1
      have hs:Hid (lft left (szM x)=left - ((szL szP x.points:Nat):Int) - ((x.tris.length:Nat):Int)):=by show _=_;unfold szM;unfold lft;split <;> omega
      go_enter Tryz.func4,Tryz.ntmps4
      go_wp2_with fail
      refine(szPointS_any _ (h.bl slc) (by omega) (by omega)).mono ?_
      rintro e w1 ⟨rfl,hb⟩
      rw[e0]
      have hb1:Bl w w1:=slc
      obtain⟨hc,hf⟩:=bcell hb
      have hz1:=hb.size
      simp only[World.size_alloc] at hz1
      clear hb
      go_wp2_with fail
      refine(szTriS_any _ (k.bl hb1) (by omega) (by omega)).mono ?_
      rintro e w2 ⟨rfl,hb⟩
      rw[e1]
      have hb2:Bl w w2:=slc
      obtain⟨hc,hf⟩:=bcell hb
      have hz2:=hb.size
      clear hb
      go_wp2_with fail
      go_ret
      exact⟨ret_int hs.out.symm,hb2⟩
    · have e1:lft (left - ((szL szP x.points:Nat):Int)) (x.tris.length)=-1:=lft_no c1
      have hs:Hid (lft left (szM x)=-1):=by show _=_;unfold szM;unfold lft;split <;> omega
      go_enter Tryz.func4,Tryz.ntmps4
      go_wp2_with fail
      refine(szPointS_any _ (h.bl slc) (by omega) (by omega)).mono ?_
      rintro e w1 ⟨rfl,hb⟩
      rw[e0]
      have hb1:Bl w w1:=slc
      obtain⟨hc,hf⟩:=bcell hb
      have hz1:=hb.size
      simp only[World.size_alloc] at hz1
      clear hb
      go_wp2_with fail
      refine(szTriS_any _ (k.bl hb1) (by omega) (by omega)).mono ?_
      rintro e w2 ⟨rfl,hb⟩
      rw[e1]
      have hb2:Bl w w2:=slc
      obtain⟨hc,hf⟩:=bcell hb
      have hz2:=hb.size
      clear hb
      go_wp2_with fail
      go_ret
      exact⟨ret_int hs.out.symm,hb2⟩
  · have e0:lft (left) (szL szP x.points)=-1:=lft_no c0
    have hs:Hid (lft left (szM x)=-1):=by show _=_;unfold szM;unfold lft;split <;> omega
    go_enter Tryz.func4,Tryz.ntmps4
    go_wp2_with fail
    refine(szPointS_any _ (h.bl slc) (by omega) (by omega)).mono ?_
    rintro e w1 ⟨rfl,hb⟩
    rw[e0]
    have hb1:Bl w w1:=slc
    obtain⟨hc,hf⟩:=bcell hb
    have hz1:=hb.size
    simp only[World.size_alloc] at hz1
    clear hb
    go_wp2_with fail
    go_ret
    exact⟨ret_int hs.out.symm,hb1⟩
end

section
open Go.RowKit

set_option maxHeartbeats 4000000 in
theorem eqTri_any (w:World) (a b c d e:Int) :
    Calls Tryz.prog 75 #[.agg #[.int .i64 a,.int .i64 b,.int .i64 c,.int .i64 d,.int .i64 e],.agg #[.int .i64 a,.int .i64 b,.int .i64 c,.int .i64 d,.int .i64 e]] w fun en w'=> en=.returned (.bool true)∧Bl w w':=by
  have ha:∀ z:Int,(z != z)=false:=by simp
  go_enter Tryz.func75,Tryz.ntmps75
  go_wp2
  go_ret
  exact⟨rfl,slc⟩

set_option maxRecDepth 100000 in
set_option maxHeartbeats 4000000 in
theorem eqTriS_any (w:World) {A B:Option Addr}{n c d:Nat}{l:List TriD}(ha:RdTS w A n c l) (hb:RdTS w B n d l) :
    Calls Tryz.prog 28 #[.slice A n c,.slice B n d] w fun e w'=> e=.returned (.bool true)∧Bl w w':=by
  have hna:=ha.small
  go_enter Tryz.func28,Tryz.ntmps28
  go_wp2
  go_loopw [5] (fun i wr=> ∃ k:Nat,k≤n∧i=.int .i64 (k:Int)∧Bl w wr) (fun i _=> n - (intOf i).toNat)
  case atStart=> exact⟨0,Nat.zero_le _,rfl,Bl.refl _⟩
  case round =>
    obtain⟨k,hk,rfl,hbw⟩:=hrel
    by_cases hkn:k < n
    · obtain⟨ad,rfl,hlta,hca⟩:=(ha.bl hbw).cells k hkn
      obtain⟨bd,rfl,hltb,hcb⟩:=(hb.bl hbw).cells k hkn
      obtain⟨g0,g1,g2,g3,g4⟩:=hca
      obtain⟨p0,p1,p2,p3,p4⟩:=hcb
      have hki:(k:Int) < (n:Int):=by omega
      go_wp2
      go_still_tail 8,(by kernel_rfl)
      go_wp2_with fail
      refine(eqTri_any _ _ _ _ _ _).mono ?_
      rintro e w1 ⟨rfl,hb1⟩
      have hb2:Bl w w1:=slc
      go_wp2_with fail
      go_roundw
      case rel=> exact⟨k+1,by omega,by go_num,hb2⟩
      case measure=> simp[intOf];omega
    · go_wp2
      go_ret
      exact⟨rfl,slc⟩

set_option maxHeartbeats 4000000 in
theorem eqMesh_any (w:World) {A B A' B':Option Addr}{n m c d n' m' c' d':Nat}{x:MeD}(h:RdPS w A n c x.points) (k:RdTS w B m d x.tris) (h':RdPS w A' n' c' x.points) (k':RdTS w B' m' d' x.tris) :
    Calls Tryz.prog 9 #[.agg #[.slice A n c,.slice B m d],.agg #[.slice A' n' c',.slice B' m' d']] w fun e w'=> e=.returned (.bool true)∧Bl w w':=by
  obtain rfl:=h.len.symm.trans h'.len
  obtain rfl:=k.len.symm.trans k'.len
  go_enter Tryz.func9,Tryz.ntmps9
  go_wp2_with fail
  refine(eqPointS_any _ (h.bl slc) (h'.bl slc)).mono ?_
  rintro e w1 ⟨rfl,hb⟩
  have hb1:Bl w w1:=slc
  obtain⟨hc,hf⟩:=bcell hb
  clear hb
  go_wp2_with fail
  refine(eqTriS_any _ (k.bl slc) (k'.bl slc)).mono ?_
  rintro e w2 ⟨rfl,hb⟩
  have hb2:Bl w w2:=slc
  clear hb
  go_wp2_with fail
  go_ret
  exact⟨rfl,hb2⟩
end

section
open Go.RowKit

set_option maxHeartbeats 1600000 in
theorem toTri_any (w:World) (a b c d e:Int) :
    Calls Tryz.prog 54 #[.agg #[.int .i64 a,.int .i64 b,.int .i64 c,.int .i64 d,.int .i64 e]] w fun en w'=> en=.returned (.agg #[.int .i64 a,.int .i64 b,.int .i64 c,.int .i64 d,.int .i64 e])∧Bl w w':=by
  go_enter Tryz.func54,Tryz.ntmps54
  go_wp2
  refine bodyPost_ret (v:=.agg #[.int .i64 a,.int .i64 b,.int .i64 c,.int .i64 d,.int .i64 e]) (by simp[results,Tryz.results54,go_sem]) rfl ⟨rfl,slc⟩

theorem info_tri:(Tryz.prog.info? 69).map (fun i =>(i.zero,i.size,i.bytes))=some (some (.agg #[.int .i64 0,.int .i64 0,.int .i64 0,.int .i64 0,.int .i64 0]),5,40):=by kernel_rfl

set_option maxHeartbeats 4000000 in
theorem toTriS_any (w:World) {A:Option Addr}{n c:Nat}{l:List TriD}(h:RdTS w A n c l) (hn:n≤1048576) :
    Calls Tryz.prog 20 #[.slice A n c] w fun e w'=> ∃ g cs,e=.returned (.slice (some ⟨g,0,none⟩) n n)∧w.heap.size≤g∧Blk w' g 69 cs∧cs.size=n * 5∧TrsIn cs l n∧Bl w w':=by
  have hl:=Lib.hid h.len
  have hmk:=make_objs (P:=Tryz.prog) Tryz.underlying34 info_tri (by omega) n n (Nat.le_refl _) (by omega)
  go_enter Tryz.func20,Tryz.ntmps20
  go_wp2_with fail
  clear hmk
  go_loopw [4] (fun i wr=> ∃ k cs,k≤n∧i=.int .i64 (k:Int)∧Blk wr w.heap.size 69 cs∧cs.size=n * 5∧TrsIn cs l k∧Bl w wr) (fun i _=> n - (intOf i).toNat)
  case atStart=> exact⟨0,_,Nat.zero_le _,rfl,Blk.mk w _ _ _ n,size_madeCells _ _,fun i hi=> by omega,(Bl.refl w).alloc _⟩
  case round =>
    obtain⟨k,cs,hk,rfl,hB,hcs,hP,hbw⟩:=hrel
    by_cases hkn:k < n
    · obtain⟨ad,rfl,hlt,hat⟩:=h.cells k hkn
      obtain⟨g0,g1,g2,g3,g4⟩:=hat.bl (by rw[block_add];exact hlt) hbw
      have hki:(k:Int) < (n:Int):=by omega
      go_wp2_with fail
      refine(toTri_any _ _ _ _ _ _).mono ?_
      rintro e w1 ⟨rfl,hb⟩
      have hB1:=hB.bl hb
      have hb1:Bl w w1:=slc
      have hfr:=hB1.frozen
      obtain⟨v0,x0⟩:=hB1.some (i:=k * 5) (by omega)
      obtain⟨v1,x1⟩:=hB1.some (i:=k * 5+1) (by omega)
      obtain⟨v2,x2⟩:=hB1.some (i:=k * 5+2) (by omega)
      obtain⟨v3,x3⟩:=hB1.some (i:=k * 5+3) (by omega)
      obtain⟨v4,x4⟩:=hB1.some (i:=k * 5+4) (by omega)
      go_wp2_with fail
      go_roundw
      case rel=> exact⟨k+1,_,by omega,by go_num,((((hB1.set_ _ _).set_ _ _).set_ _ _).set_ _ _).set_ _ _,by simp[hcs],hP.step hcs hkn,slc⟩
      case measure=> simp[intOf];omega
    · obtain rfl:k=n:=by omega
      go_wp2_with fail
      go_ret
      exact⟨_,cs,rfl,Nat.le_refl _,hB,hcs,hP,hbw⟩

/-- A mesh in memory of its own from block b0 on. -/
def OwM (b0:Nat) (w:World) (A:Option Addr) (n c:Nat) (B:Option Addr) (m d:Nat) (x:MeD):Prop :=
  ∃ g g' cs cs' fs, A = some ⟨g, 0, none⟩ ∧ B = some ⟨g', 0, none⟩ ∧ b0 ≤ g ∧ b0 ≤ g' ∧ x.points.length = n ∧ x.tris.length = m ∧ n ≤ c ∧ m ≤ d ∧ n ≤ 1048576 ∧ m ≤ 1048576 ∧
    Blk w g 76 cs∧Blk w g' 69 cs'∧cs.size=n * 6∧cs'.size=m * 5∧PtsIn 3 w cs x.points n fs∧TrsIn cs' x.tris m∧Fp b0 w.heap.size fs.flatten∧g ∉ fs.flatten∧g' ∉ fs.flatten∧g≠g'

set_option maxHeartbeats 4000000 in
theorem toMesh_any (w:World) {A:Option Addr}{n c:Nat}{B:Option Addr}{m d:Nat}{x:MeD}(h:RdPS w A n c x.points) (k:RdTS w B m d x.tris) (hn:szM x≤1048576) :
    Calls Tryz.prog 6 #[.agg #[.slice A n c,.slice B m d]] w fun e w'=> ∃ A' B',e=.returned (.agg #[.slice A' n n,.slice B' m m])∧OwM w.heap.size w' A' n n B' m m x∧Bl w w':=by
  have hl:=Lib.hid h.len
  have hl':=Lib.hid k.len
  unfold szM at hn
  have hn1:n≤1048576:=by have:=hl.out;unfold szL at hn;omega
  have hm1:m≤1048576:=by have:=hl'.out;omega
  go_enter Tryz.func6,Tryz.ntmps6
  go_wp2_with fail
  refine(toPointS_any _ (h.bl slc) (by omega)).mono ?_
  rintro e w1 ⟨g,cs,fs,rfl,hg,hB,hcs,hP,hF,hb⟩
  obtain⟨hc,hf⟩:=bcell hb
  have hb1:Bl w w1:=slc
  have hz:=hb.size
  have hgl:=hB.lt
  simp only[World.size_alloc] at hz hg
  have hz1_0:w.heap.size < w1.heap.size:=by omega
  have hz1_1:w.heap.size+1 < w1.heap.size:=by omega
  have hz1_2:w.heap.size+1+1 < w1.heap.size:=by omega
  go_wp2_with fail
  refine(toTriS_any _ (k.bl slc) hm1).mono ?_
  rintro e w2 ⟨g',cs',rfl,hg',hB',hcs',hP',hb'⟩
  obtain⟨hc2,hf2⟩:=bcell hb'
  have hz2:=hb'.size
  simp only[World.size_setCell] at hz2 hg'
  have hz2_0:w.heap.size < w2.heap.size:=by omega
  have hz2_1:w.heap.size+1 < w2.heap.size:=by omega
  have hz2_2:w.heap.size+1+1 < w2.heap.size:=by omega
  have hB1:Blk w2 g 76 cs:=Blk.bl (hB.far (by simp <;> omega) _) hb'
  have hP1:PtsIn 3 w2 cs x.points n fs:=PtsIn.bl (hP.far (fun b hb=> by have:=(hF.2 b hb).1;simp <;> omega) _) hb' (fun b hb=> by simp;exact(hF.2 b hb).2)
  have hF1:Fp (g+1) w2.heap.size fs.flatten:=hF.mono (Nat.le_refl _) hz2
  have hb2:Bl w w2:=Bl.next slc hb'
  go_wp2_with fail
  refine bodyPost_ret (v:=.agg #[.slice (some ⟨g,0,none⟩) n n,.slice (some ⟨g',0,none⟩) m m]) (by simp[results,Tryz.results6,go_sem,hc,hc2,hz1_1]) rfl ⟨_,_,rfl,
    ⟨g,g',cs,cs',fs,rfl,rfl,by omega,by omega,hl.out,hl'.out,Nat.le_refl _,Nat.le_refl _,hn1,hm1,?_,?_,hcs,hcs',?_,hP',?_,?_,?_,?_⟩,slc⟩
  · exact(hB1.far (by simp <;> omega) _).far (by simp <;> omega) _ |>.far (by simp <;> omega) _
  · exact(hB'.far (by simp <;> omega) _).far (by simp <;> omega) _ |>.far (by simp <;> omega) _
  · exact(hP1.far (fun b hb=> by have:=(hF1.2 b hb).1;simp <;> omega) _).far (fun b hb=> by have:=(hF1.2 b hb).1;simp <;> omega) _ |>.far (fun b hb=> by have:=(hF1.2 b hb).1;simp <;> omega) _
  · exact hF1.mono (by omega) (by simp)
  · intro hb;have:=(hF.2 _ hb).1;omega
  · intro hb;have:=(hF.2 _ hb).2;omega
  · omega
end

section
open Go.RowKit

theorem OwM.low {b0 b1:Nat}{w:World}{A:Option Addr}{n c:Nat}{B:Option Addr}{m d:Nat}{x:MeD}(h:OwM b1 w A n c B m d x) (hb:b0≤b1):OwM b0 w A n c B m d x:=by
  obtain⟨g,g',cs,cs',fs,e1,e2,h1,h2,h3,h4,h5,h6,h7,h8,h9,h10,h11,h12,h13,h14,h15,h16⟩:=h
  exact⟨g,g',cs,cs',fs,e1,e2,by omega,by omega,h3,h4,h5,h6,h7,h8,h9,h10,h11,h12,h13,h14,h15.mono hb (Nat.le_refl _),h16⟩
theorem OwM.rdP {b0:Nat}{w:World}{A:Option Addr}{n c:Nat}{B:Option Addr}{m d:Nat}{x:MeD}(h:OwM b0 w A n c B m d x):RdPS w A n c x.points:=by
  obtain⟨g,g',cs,cs',fs,rfl,rfl,h1,h2,h3,h4,h5,h6,h7,h8,h9,h10,h11,h12,h13,h14,h15,h16⟩:=h
  exact h13.rd h9 h3 (by omega) h5
theorem OwM.rdT {b0:Nat}{w:World}{A:Option Addr}{n c:Nat}{B:Option Addr}{m d:Nat}{x:MeD}(h:OwM b0 w A n c B m d x):RdTS w B m d x.tris:=by
  obtain⟨g,g',cs,cs',fs,rfl,rfl,h1,h2,h3,h4,h5,h6,h7,h8,h9,h10,h11,h12,h13,h14,h15,h16⟩:=h
  exact h14.rd h10 h4 (by omega) h6
/-- A mesh between two block numbers. -/
def OwMX (lo hi:Nat) (w:World) (A:Option Addr) (n c:Nat) (B:Option Addr) (m d:Nat) (x:MeD):Prop :=
  ∃ g g' cs cs' fs, A = some ⟨g, 0, none⟩ ∧ B = some ⟨g', 0, none⟩ ∧ lo ≤ g ∧ lo ≤ g' ∧ g < hi ∧ g' < hi ∧ x.points.length = n ∧ x.tris.length = m ∧ n ≤ c ∧ m ≤ d ∧ n ≤ 1048576 ∧ m ≤ 1048576 ∧
    Blk w g 76 cs∧Blk w g' 69 cs'∧cs.size=n * 6∧cs'.size=m * 5∧PtsIn 3 w cs x.points n fs∧TrsIn cs' x.tris m∧Fp lo hi fs.flatten∧g ∉ fs.flatten∧g' ∉ fs.flatten∧g≠g'
section
variable {lo hi:Nat}{w W:World}{A:Option Addr}{n c:Nat}{B:Option Addr}{m d:Nat}{x:MeD}
theorem OwMX.of (h:OwM lo w A n c B m d x):OwMX lo w.heap.size w A n c B m d x:=by
  obtain⟨g,g',cs,cs',fs,e1,e2,h1,h2,h3,h4,h5,h6,h7,h8,h9,h10,h11,h12,h13,h14,h15,h16⟩:=h
  exact⟨g,g',cs,cs',fs,e1,e2,h1,h2,h9.lt,h10.lt,h3,h4,h5,h6,h7,h8,h9,h10,h11,h12,h13,h14,h15,h16⟩
theorem OwMX.rdP (h:OwMX lo hi w A n c B m d x):RdPS w A n c x.points:=by
  obtain⟨g,g',cs,cs',fs,rfl,rfl,h1,h2,_,_,h3,h4,h5,h6,h7,h8,h9,h10,h11,h12,h13,h14,h15,h16⟩:=h
  exact h13.rd h9 h3 (by omega) h5
theorem OwMX.rdT (h:OwMX lo hi w A n c B m d x):RdTS w B m d x.tris:=by
  obtain⟨g,g',cs,cs',fs,rfl,rfl,h1,h2,_,_,h3,h4,h5,h6,h7,h8,h9,h10,h11,h12,h13,h14,h15,h16⟩:=h
  exact h14.rd h10 h4 (by omega) h6
theorem OwMX.bl (h:OwMX lo hi w A n c B m d x) (hb:Bl w W):OwMX lo hi W A n c B m d x:=by
  obtain⟨g,g',cs,cs',fs,e1,e2,h1,h2,h1',h2',h3,h4,h5,h6,h7,h8,h9,h10,h11,h12,h13,h14,h15,h16⟩:=h
  refine⟨g,g',cs,cs',fs,e1,e2,h1,h2,h1',h2',h3,h4,h5,h6,h7,h8,h9.bl hb,h10.bl hb,h11,h12,h13.bl hb (fun b hm=> ?_),h14,h15,h16⟩
  obtain⟨l,hl',hb'⟩:=List.mem_flatten.1 hm
  obtain⟨i,hi,rfl⟩:=List.getElem_of_mem hl'
  exact(h13.2 i (by rw[← h13.1];exact hi)).lt b (by simpa [pix,hi] using hb')
end
theorem markMesh_z (w:World) {lo hi n c m d:Nat}{A B:Option Addr}{x:MeD}{k0:Int}(h:OwMX lo hi w A n c B m d x) (hsz:szL szP x.points≤1048576) (hm:m≤1048576) (h0:0≤k0) (h1:k0≤1073741824) :
    Calls Tryz.prog 10 #[.agg #[.slice A n c,.slice B m d],.int .i64 k0] w fun e w'=> ∃ K:Int,e=.returned (.int .i64 K)∧0≤K∧∃ bs,(∀ b ∈ bs,lo≤b∧b < hi)∧Ob bs w w':=by
  obtain⟨g,g',cs,cs',fs,rfl,rfl,h1',h2',a1,a2,h3,h4,h5,h6,h7,h8,h9,h10,h11,h12,h13,h14,h15,h16,h17,h18⟩:=h
  refine(markMesh_any w h9 h11 h13 h10 h12 h3 h16 h17 h18 h15.1 h7 hm hsz h0 h1).mono ?_
  rintro e w' ⟨K,rfl,hK,hO⟩
  refine⟨K,rfl,hK,_,fun b hb=> ?_,hO⟩
  rcases List.mem_cons.1 hb with rfl | hb
  · exact⟨h1',a1⟩
  · rcases List.mem_cons.1 hb with rfl | hb
    · exact⟨h2',a2⟩
    · exact h15.2 b hb
end

section
open Go.RowKit Go.ChangeShapes
open Go.Deep (open_slice open_slice1 choose_lt)

theorem len_2 {α:Type}{cs:List α}(h:cs.length=2):∃ a0 a1,cs=[a0,a1]:=by
  match cs,h with
  | [a0,a1],_=> exact⟨a0,a1,rfl⟩
theorem len_3 {α:Type}{cs:List α}(h:cs.length=3):∃ a0 a1 a2,cs=[a0,a1,a2]:=by
  match cs,h with
  | [a0,a1,a2],_=> exact⟨a0,a1,a2,rfl⟩
theorem len_5 {α:Type}{cs:List α}(h:cs.length=5):∃ a0 a1 a2 a3 a4,cs=[a0,a1,a2,a3,a4]:=by
  match cs,h with
  | [a0,a1,a2,a3,a4],_=> exact⟨a0,a1,a2,a3,a4,rfl⟩
theorem len_6 {α:Type}{cs:List α}(h:cs.length=6):∃ a0 a1 a2 a3 a4 a5,cs=[a0,a1,a2,a3,a4,a5]:=by
  match cs,h with
  | [a0,a1,a2,a3,a4,a5],_=> exact⟨a0,a1,a2,a3,a4,a5,rfl⟩
theorem cells_il:Tryz.prog.cellsOf 27=1:=by kernel_rfl
theorem cells_b:Tryz.prog.cellsOf 4=1:=by kernel_rfl
theorem cells_i:Tryz.prog.cellsOf 3=1:=by kernel_rfl
theorem cells_bi:Tryz.prog.cellsOf 60=2:=by kernel_rfl
theorem cells_rat:Tryz.prog.cellsOf 62=3:=by kernel_rfl
theorem cells_pt:Tryz.prog.cellsOf 64=6:=by kernel_rfl
theorem cells_ptl:Tryz.prog.cellsOf 22=1:=by kernel_rfl
section
variable {H:Type}{enc:TypeId × Value→H}{w:World}{fuel:Nat}{cs:List Value}{x:DataW H × List MemPlace}
theorem open_il {spare:Nat→Bool}{base:Nat}{held:Bool}(h:DataW.trod enc Tryz.prog w base spare held fuel 27 cs=some x):∃ A n c l,cs=[.slice A n c]∧RdI w A n c l:=by
  rcases open_slice1 Tryz.underlying27 cells_i h with ⟨rfl,_⟩ |⟨a,len,cap,m,k,V,D,Pl,rfl,hb,hl,hm,hmm,_,hx⟩
  · exact⟨none,0,0,[],rfl,RdI.nil w _ _⟩
  · have hm':cap≤9223372036854775807:=by simpa [maxLen] using hm
    have hlm:len≤m:=by rw[hmm];split <;> omega
    refine⟨some a,len,cap,(List.range len).map fun i=> intOf (V i),rfl,by simp,hl,by omega,fun i hi=> ?_⟩
    obtain⟨hc,ht⟩:=hx i (by omega)
    obtain⟨z,e,_⟩:=DataW.trod_int Tryz.underlying3 ht
    refine⟨a,rfl,?_,?_⟩
    · have:=World.block_lt_of_cell? w _ hc
      rwa [block_add] at this
    · rw[hc]
      injection e with e
      rw[e]
      simp[ix,hi,e,intOf]

theorem open_bi {spare:Nat→Bool}{base:Nat}{held:Bool}(h:DataW.trod enc Tryz.prog w base spare held fuel 60 cs=some x):∃ s A n c l,cs=[.bool s,.slice A n c]∧RdI w A n c l:=by
  obtain⟨y0,y1,n,_,hlen,h0,h1⟩:=trod_struct2 Tryz.underlying60 h
  have hl:cs.length=2:=hlen.trans cells_bi
  obtain⟨a,b,rfl⟩:=len_2 hl
  have h0':DataW.trod enc Tryz.prog w base spare held n 4 [a]=some y0:=by simpa [cells_b,cells_bi,cells_rat,cells_ptl] using h0
  have h1':DataW.trod enc Tryz.prog w base spare held n 27 [b]=some y1:=by simpa [cells_il] using h1
  obtain⟨s,e0,_⟩:=DataW.trod_bool Tryz.underlying4 h0'
  obtain⟨A,k,c,l,e1,hr⟩:=open_il h1'
  injection e0 with e0
  injection e1 with e1
  exact⟨s,A,k,c,l,by rw[e0,e1],hr⟩
theorem open_rat {spare:Nat→Bool}{base:Nat}{held:Bool}(h:DataW.trod enc Tryz.prog w base spare held fuel 62 cs=some x):∃ s A n c B m d r,cs=[.bool s,.slice A n c,.slice B m d]∧RdR w s A n c B m d r:=by
  obtain⟨y0,y1,n,_,hlen,h0,h1⟩:=trod_struct2 Tryz.underlying62 h
  have hl:cs.length=3:=hlen.trans cells_rat
  obtain⟨a,b,c,rfl⟩:=len_3 hl
  have h0':DataW.trod enc Tryz.prog w base spare held n 60 [a,b]=some y0:=by simpa [cells_b,cells_bi,cells_rat,cells_ptl] using h0
  have h1':DataW.trod enc Tryz.prog w base spare held n 27 [c]=some y1:=by simpa [cells_il] using h1
  obtain⟨s,A,k,d,l,e0,hr⟩:=open_bi h0'
  obtain⟨B,m,e,l',e1,hr'⟩:=open_il h1'
  injection e0 with e0 e0'
  injection e0' with e0'
  injection e1 with e1
  exact⟨s,A,k,d,B,m,e,⟨s,l,l'⟩,by rw[e0,e0',e1],⟨rfl,hr,hr'⟩⟩
theorem open_pt {spare:Nat→Bool}{base:Nat}{held:Bool}(h:DataW.trod enc Tryz.prog w base spare held fuel 64 cs=some x):∃ s A n c B m d t C i e D j f p,cs=[.bool s,.slice A n c,.slice B m d,.bool t,.slice C i e,.slice D j f]∧RdR w s A n c B m d (PtD.x p)∧RdR w t C i e D j f (PtD.y p):=by
  obtain⟨y0,y1,n,_,hlen,h0,h1⟩:=trod_struct2 Tryz.underlying64 h
  have hl:cs.length=6:=hlen.trans cells_pt
  obtain⟨a0,a1,a2,a3,a4,a5,rfl⟩:=len_6 hl
  have h0':DataW.trod enc Tryz.prog w base spare held n 62 [a0,a1,a2]=some y0:=by simpa [cells_b,cells_bi,cells_rat,cells_ptl] using h0
  have h1':DataW.trod enc Tryz.prog w base spare held n 62 [a3,a4,a5]=some y1:=by simpa [cells_rat] using h1
  obtain⟨s,A,k,c,B,m,d,r,e0,hr⟩:=open_rat h0'
  obtain⟨t,C,i,e,D,j,f,u,e1,hr'⟩:=open_rat h1'
  injection e0 with g0 e0
  injection e0 with g1 e0
  injection e0 with g2 e0
  injection e1 with g3 e1
  injection e1 with g4 e1
  injection e1 with g5 e1
  exact⟨s,A,k,c,B,m,d,t,C,i,e,D,j,f,⟨r,u⟩,by rw[g0,g1,g2,g3,g4,g5],hr,hr'⟩
theorem open_ptl {spare:Nat→Bool}{base:Nat}{held:Bool}(h:DataW.trod enc Tryz.prog w base spare held fuel 22 cs=some x):∃ A n c l,cs=[.slice A n c]∧RdPS w A n c l:=by
  rcases open_slice Tryz.underlying22 h with ⟨rfl,_⟩ |⟨a,len,cap,m,k,D,Pl,rfl,hb,hl,hm,hmm,_,hx⟩
  · exact⟨none,0,0,[],rfl,RdS.nil w _ _⟩
  · have hm':cap≤9223372036854775807:=by simpa [maxLen] using hm
    have hlm:len≤m:=by rw[hmm];split <;> omega
    have hel:∀ i,i < len→∃ p,a.block < w.heap.size∧PtAt w (a.add (i * 6)) p:=by
      intro i hi
      obtain⟨cs',hc,ht⟩:=hx i (by omega)
      have hc':w.cells? base (a.add (i * 6)) 6=some cs':=by rw[cells_pt] at hc;exact hc
      obtain⟨s,A,n,c,B,m,d,t,C,i',e,D,j,f,p,rfl,hr,hr'⟩:=open_pt ht
      obtain⟨_,_,hcell⟩:=World.cells?_some hc'
      have c0:=hcell 0 (by omega)
      refine⟨p,?_,s,A,n,c,B,m,d,t,C,i',e,D,j,f,⟨c0,hcell 1 (by omega),hcell 2 (by omega),hcell 3 (by omega),hcell 4 (by omega),hcell 5 (by omega)⟩,hr,hr'⟩
      have:=World.block_lt_of_cell? w _ (show w.cell? ((a.add (i * 6)).add 0)=some (.bool s) from c0)
      rwa [block_add,block_add] at this
    obtain⟨F,hF⟩:=choose_lt hel
    refine⟨some a,len,cap,(List.range len).map F,rfl,by simp,hl,by omega,fun i hi =>⟨a,rfl,(hF i hi).1,?_⟩⟩
    have:pix ((List.range len).map F) i=F i:=by simp[pix,hi]
    rw[this]
    exact(hF i hi).2
end
end

section
open Go.RowKit Go.ChangeShapes
open Go.Deep (open_slice open_slice1 choose_lt)
theorem cells_tri:Tryz.prog.cellsOf 88=5:=by kernel_rfl
theorem cells_trl:Tryz.prog.cellsOf 23=1:=by kernel_rfl
theorem cells_me:Tryz.prog.cellsOf 25=2:=by kernel_rfl
section
variable {H:Type}{enc:TypeId × Value→H}{w:World}{fuel:Nat}{cs:List Value}{x:DataW H × List MemPlace}
theorem open_tri {spare:Nat→Bool}{base:Nat}{held:Bool}(h:DataW.trod enc Tryz.prog w base spare held fuel 88 cs=some x):∃ a b c d e,cs=[.int .i64 a,.int .i64 b,.int .i64 c,.int .i64 d,.int .i64 e]:=by
  obtain⟨xs,n,_,_,hlen,hlx,hf⟩:=DataW.trod_struct Tryz.underlying88 h
  have hl:cs.length=5:=hlen.trans cells_tri
  obtain⟨a0,a1,a2,a3,a4,rfl⟩:=len_5 hl
  have hx:xs.length=5:=hlx
  obtain⟨y0,y1,y2,y3,y4,rfl⟩:=len_5 hx
  have h0:DataW.trod enc Tryz.prog w base spare held n 3 [a0]=some y0:=by simpa [cells_i] using hf 0 _ rfl
  have h1:DataW.trod enc Tryz.prog w base spare held n 3 [a1]=some y1:=by simpa [cells_i] using hf 1 _ rfl
  have h2:DataW.trod enc Tryz.prog w base spare held n 3 [a2]=some y2:=by simpa [cells_i] using hf 2 _ rfl
  have h3:DataW.trod enc Tryz.prog w base spare held n 3 [a3]=some y3:=by simpa [cells_i] using hf 3 _ rfl
  have h4:DataW.trod enc Tryz.prog w base spare held n 3 [a4]=some y4:=by simpa [cells_i] using hf 4 _ rfl
  obtain⟨z0,e0,_⟩:=DataW.trod_int Tryz.underlying3 h0
  obtain⟨z1,e1,_⟩:=DataW.trod_int Tryz.underlying3 h1
  obtain⟨z2,e2,_⟩:=DataW.trod_int Tryz.underlying3 h2
  obtain⟨z3,e3,_⟩:=DataW.trod_int Tryz.underlying3 h3
  obtain⟨z4,e4,_⟩:=DataW.trod_int Tryz.underlying3 h4
  injection e0 with e0
  injection e1 with e1
  injection e2 with e2
  injection e3 with e3
  injection e4 with e4
  exact⟨z0,z1,z2,z3,z4,by rw[e0,e1,e2,e3,e4]⟩
theorem open_trl {spare:Nat→Bool}{base:Nat}{held:Bool}(h:DataW.trod enc Tryz.prog w base spare held fuel 23 cs=some x):∃ A n c l,cs=[.slice A n c]∧RdTS w A n c l:=by
  rcases open_slice Tryz.underlying23 h with ⟨rfl,_⟩ |⟨a,len,cap,m,k,D,Pl,rfl,hb,hl,hm,hmm,_,hx⟩
  · exact⟨none,0,0,[],rfl,RdS.nil w _ _⟩
  · have hm':cap≤9223372036854775807:=by simpa [maxLen] using hm
    have hlm:len≤m:=by rw[hmm];split <;> omega
    have hel:∀ i,i < len→∃ t,a.block < w.heap.size∧TrAt w (a.add (i * 5)) t:=by
      intro i hi
      obtain⟨cs',hc,ht⟩:=hx i (by omega)
      have hc':w.cells? base (a.add (i * 5)) 5=some cs':=by rw[cells_tri] at hc;exact hc
      obtain⟨a1,a2,a3,a4,a5,rfl⟩:=open_tri ht
      obtain⟨_,_,hcell⟩:=World.cells?_some hc'
      have c0:=hcell 0 (by omega)
      refine⟨⟨a1,a2,a3,a4,a5⟩,?_,c0,hcell 1 (by omega),hcell 2 (by omega),hcell 3 (by omega),hcell 4 (by omega)⟩
      have:=World.block_lt_of_cell? w _ (show w.cell? ((a.add (i * 5)).add 0)=some (.int .i64 a1) from c0)
      rwa [block_add,block_add] at this
    obtain⟨F,hF⟩:=choose_lt hel
    refine⟨some a,len,cap,(List.range len).map F,rfl,by simp,hl,by omega,fun i hi =>⟨a,rfl,(hF i hi).1,?_⟩⟩
    have:pix ((List.range len).map F) i=F i:=by simp[pix,hi]
    rw[this]
    exact(hF i hi).2
theorem open_me {spare:Nat→Bool}{base:Nat}{held:Bool}(h:DataW.trod enc Tryz.prog w base spare held fuel 25 cs=some x):∃ A n c B m d y,cs=[.slice A n c,.slice B m d]∧RdPS w A n c (MeD.points y)∧RdTS w B m d (MeD.tris y):=by
  obtain⟨y0,y1,n,_,hlen,h0,h1⟩:=trod_struct2 Tryz.underlying25 h
  have hl:cs.length=2:=hlen.trans cells_me
  obtain⟨a,b,rfl⟩:=len_2 hl
  have h0':DataW.trod enc Tryz.prog w base spare held n 22 [a]=some y0:=by simpa [cells_b,cells_bi,cells_rat,cells_ptl] using h0
  have h1':DataW.trod enc Tryz.prog w base spare held n 23 [b]=some y1:=by simpa [cells_trl] using h1
  obtain⟨A,k,c,l,e0,hr⟩:=open_ptl h0'
  obtain⟨B,m,d,l',e1,hr'⟩:=open_trl h1'
  injection e0 with e0
  injection e1 with e1
  exact⟨A,k,c,B,m,d,⟨l,l'⟩,by rw[e0,e1],hr,hr'⟩
end
end

end Go.Proofs.YtjaapemopbbfaaaGreat
