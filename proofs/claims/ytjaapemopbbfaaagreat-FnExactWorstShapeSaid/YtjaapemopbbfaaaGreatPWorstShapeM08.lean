/- Lemmas. -/
import Derived.Test.YtjaapemopbbfaaaGreatRows
import Derived.Test.YtjaapemopbbfaaaGreatPWorstShapeM07
namespace Go.Proofs.YtjaapemopbbfaaaGreat
section
open Go.RowKit

section
variable {w W:World}{g:Nat}{T:TypeId}{cs:Array Value}{a b c a' b' c':Value}
theorem Blk.alloc (h:Blk w g T cs) (o:Obj):Blk (w.alloc o) g T cs:=h.bl ((Bl.refl w).alloc o)
theorem Blk.drew (h:Blk w g T cs):Blk w.drew g T cs:=h
theorem Blk.drewN (h:Blk w g T cs) (q:Nat):Blk (w.drewN q) g T cs:=h
theorem Blk.new1 (w:World) (o:Obj) (T:TypeId) (cs:Array Value):Blk ((w.alloc o).alloc (.cells cs T)) (w.heap.size+1) T cs:=by
  have:=Blk.new (w.alloc o) T cs
  rwa [World.size_alloc] at this
theorem Blk.new2 (w:World) (o o':Obj) (T:TypeId) (cs:Array Value):Blk (((w.alloc o).alloc o').alloc (.cells cs T)) (w.heap.size+1+1) T cs:=by
  have:=Blk.new1 (w.alloc o) o' T cs
  rwa [World.size_alloc] at this
theorem bx2 (h:Blk W g T #[a,b]):W.cell? ⟨g,0,none⟩=some a∧W.cell? ⟨g,1,none⟩=some b:=⟨h.cell 0,h.cell 1⟩
theorem bx3 (h:Blk W g T #[a,b,c]):W.cell? ⟨g,0,none⟩=some a∧W.cell? ⟨g,1,none⟩=some b∧W.cell? ⟨g,2,none⟩=some c:=⟨h.cell 0,h.cell 1,h.cell 2⟩
theorem bx6 (h:Blk W g T #[a,b,c,a',b',c']):W.cell? ⟨g,0,none⟩=some a∧W.cell? ⟨g,1,none⟩=some b∧W.cell? ⟨g,2,none⟩=some c∧W.cell? ⟨g,3,none⟩=some a'∧W.cell? ⟨g,4,none⟩=some b'∧W.cell? ⟨g,5,none⟩=some c':=⟨h.cell 0,h.cell 1,h.cell 2,h.cell 3,h.cell 4,h.cell 5⟩
/-- Block g has k cells that may be written. -/
def Wk (k:Nat) (T:TypeId) (g:Nat) (W:World):Prop:=∃ cs,Blk W g T cs∧cs.size=k
variable {k:Nat}
theorem Wk.bl (h:Wk k T g w) (hb:Bl w W):Wk k T g W:=by
  obtain⟨cs,h1,h2⟩:=h
  exact⟨cs,h1.bl hb,h2⟩
theorem Wk.alloc (h:Wk k T g w) (o:Obj):Wk k T g (w.alloc o):=h.bl ((Bl.refl w).alloc o)
theorem Wk.drew (h:Wk k T g w):Wk k T g w.drew:=h
theorem Wk.drewN (h:Wk k T g w) (q:Nat):Wk k T g (w.drewN q):=h
theorem Wk.set (h:Wk k T g w) (i:Nat) (u:Value):Wk k T g (w.setCell ⟨g,i,none⟩ u):=by
  obtain⟨cs,h1,h2⟩:=h
  exact⟨_,h1.set_ i u,by simp[h2]⟩
theorem Wk.far (h:Wk k T g w) {p:Addr}(hp:g≠p.block) (u:Value):Wk k T g (w.setCell p u):=by
  obtain⟨cs,h1,h2⟩:=h
  exact⟨cs,h1.far hp u,h2⟩
theorem Wk.of (h:Blk W g T cs) (hk:cs.size=k):Wk k T g W:=⟨cs,h,hk⟩
theorem Wk.lt (h:Wk k T g w):g < w.heap.size:=by
  obtain⟨cs,h1,_⟩:=h
  exact h1.lt
theorem Wk.val_ (h:Wk k T g W) {i:Nat}(hi:i < k):∃ v,W.cell? ⟨g,i,none⟩=some v:=by
  obtain⟨cs,h1,h2⟩:=h
  exact h1.some (by omega)
theorem Wk.out2 (h:Wk 2 T g W):(W.cell? ⟨g,0,none⟩=some (cellD W g 0)∧W.cell? ⟨g,1,none⟩=some (cellD W g 1))∧W.frozen? ⟨g,0,none⟩=false∧W.frozen? ⟨g,1,none⟩=false:=by
  obtain⟨cs,h1,h2⟩:=h
  exact⟨⟨cellD_eq (h1.some (by omega)),cellD_eq (h1.some (by omega))⟩,h1.frozen 0,h1.frozen 1⟩
theorem Wk.out3 (h:Wk 3 T g W):(W.cell? ⟨g,0,none⟩=some (cellD W g 0)∧W.cell? ⟨g,1,none⟩=some (cellD W g 1)∧W.cell? ⟨g,2,none⟩=some (cellD W g 2))∧W.frozen? ⟨g,0,none⟩=false∧W.frozen? ⟨g,1,none⟩=false∧W.frozen? ⟨g,2,none⟩=false:=by
  obtain⟨cs,h1,h2⟩:=h
  exact⟨⟨cellD_eq (h1.some (by omega)),cellD_eq (h1.some (by omega)),cellD_eq (h1.some (by omega))⟩,h1.frozen 0,h1.frozen 1,h1.frozen 2⟩
theorem Wk.out6 (h:Wk 6 T g W):(W.cell? ⟨g,0,none⟩=some (cellD W g 0)∧W.cell? ⟨g,1,none⟩=some (cellD W g 1)∧W.cell? ⟨g,2,none⟩=some (cellD W g 2)∧W.cell? ⟨g,3,none⟩=some (cellD W g 3)∧W.cell? ⟨g,4,none⟩=some (cellD W g 4)∧W.cell? ⟨g,5,none⟩=some (cellD W g 5)) ∧
    W.frozen? ⟨g,0,none⟩=false∧W.frozen? ⟨g,1,none⟩=false∧W.frozen? ⟨g,2,none⟩=false∧W.frozen? ⟨g,3,none⟩=false∧W.frozen? ⟨g,4,none⟩=false∧W.frozen? ⟨g,5,none⟩=false:=by
  obtain⟨cs,h1,h2⟩:=h
  exact⟨⟨cellD_eq (h1.some (by omega)),cellD_eq (h1.some (by omega)),cellD_eq (h1.some (by omega)),cellD_eq (h1.some (by omega)),cellD_eq (h1.some (by omega)),cellD_eq (h1.some (by omega))⟩,h1.frozen 0,h1.frozen 1,h1.frozen 2,h1.frozen 3,h1.frozen 4,h1.frozen 5⟩
end

theorem Blk.new3 (w:World) (o o' o'':Obj) (T:TypeId) (cs:Array Value):Blk ((((w.alloc o).alloc o').alloc o'').alloc (.cells cs T)) (w.heap.size+1+1+1) T cs:=by
  have:=Blk.new2 (w.alloc o) o' o'' T cs
  rwa [World.size_alloc] at this
/-- What is to be shown of a block goes by itself. -/
theorem bts {P:Prop}(h:P:=by repeat (first |(with_reducible first | assumption | exact Blk.new _ _ _ | exact Blk.new1 _ _ _ _ | exact Blk.new2 _ _ _ _ _ | exact Blk.new3 _ _ _ _ _ _ | exact Wk.of (Blk.new _ _ _) rfl | exact Wk.of (Blk.new1 _ _ _ _) rfl | exact Wk.of (Blk.new2 _ _ _ _ _) rfl | exact Wk.of (Blk.new3 _ _ _ _ _ _) rfl | refine Blk.drew ?_ | refine Blk.drewN ?_ _ | refine Wk.drew ?_ | refine Wk.drewN ?_ _ | refine Blk.alloc ?_ _ | refine Wk.alloc ?_ _ | refine Wk.set ?_ _ _) |(with_reducible refine Blk.far ?_ (by simp <;> omega) _) |(with_reducible refine Wk.far ?_ (by simp <;> omega) _) |(with_reducible refine Blk.bl ?_ ‹Bl _ _›) |(with_reducible refine Wk.bl ?_ ‹Bl _ _›))):P:=h
theorem Wk.put2 {W:World}{g:Nat}{T:TypeId}(h:Wk 2 T g W) (a b:Value):Blk ((W.setCell ⟨g,0,none⟩ a).setCell ⟨g,1,none⟩ b) g T #[a,b]:=by
  obtain⟨⟨l⟩,h1,h2⟩:=h
  have h3:=(h1.set_ 0 a).set_ 1 b
  rcases l with _ |⟨u,_ |⟨v,_ |⟨z,l⟩⟩⟩ <;> simp at h2
  exact h3
theorem Wk.put3 {W:World}{g:Nat}{T:TypeId}(h:Wk 3 T g W) (a b c:Value):Blk (((W.setCell ⟨g,0,none⟩ a).setCell ⟨g,1,none⟩ b).setCell ⟨g,2,none⟩ c) g T #[a,b,c]:=by
  obtain⟨⟨l⟩,h1,h2⟩:=h
  have h3:=((h1.set_ 0 a).set_ 1 b).set_ 2 c
  rcases l with _ |⟨u,_ |⟨v,_ |⟨y,_ |⟨z,l⟩⟩⟩⟩ <;> simp at h2
  exact h3
theorem wk_new {w W:World}{T:TypeId}{cs:Array Value}(hb:Bl (w.alloc (.cells cs T)) W):Wk cs.size T w.heap.size W:=(Wk.of (Blk.new w T cs) rfl).bl hb

theorem wk_newd {w W:World}{T:TypeId}{cs:Array Value}(hb:Bl (w.alloc (.cells cs T)).drew W):Wk cs.size T w.heap.size W:=((Wk.of (Blk.new w T cs) rfl).drew).bl hb

/-- A signed integer in memory. -/
def IsB (w:World) (s:Bool) (A:Option Addr) (n c:Nat) (x:Int):Prop:=s=decide (x < 0)∧IsN w A n c x.natAbs
/-- .. in memory of its own. -/
def OwB (T:TypeId) (b0:Nat) (w:World) (s:Bool) (A:Option Addr) (n c:Nat) (x:Int):Prop:=s=decide (x < 0)∧OwI T b0 w A n c (ints (dig x.natAbs))
section
variable {T:TypeId}{b0 b1:Nat}{w W:World}{s:Bool}{A B:Option Addr}{n c m d:Nat}{x:Int}{D:Nat}
theorem IsB.mg (h:IsB w s A n c x):IsN w A n c x.natAbs:=h.2
theorem IsB.bl (h:IsB w s A n c x) (hb:Bl w W):IsB W s A n c x:=⟨h.1,h.2.bl hb⟩
theorem IsB.of (h:IsN w A n c D):IsB w false A n c (D:Int):=⟨by simp,by rw[Int.natAbs_natCast];exact h⟩
theorem OwB.rd (h:OwB T b0 w s A n c x):IsB w s A n c x:=⟨h.1,h.2.rd⟩
theorem OwB.bl (h:OwB T b0 w s A n c x) (hb:Bl w W):OwB T b0 W s A n c x:=⟨h.1,h.2.bl hb⟩
theorem OwB.mono (h:OwB T b1 w s A n c x) (hb:b0≤b1):OwB T b0 w s A n c x:=⟨h.1,h.2.mono hb⟩
theorem OwI.far {l:List Int}(h:OwI T b0 w A n c l) {p:Addr}(hp:p.block < b0) (u:Value):OwI T b0 (w.setCell p u) A n c l:=by
  obtain⟨bs,h,hf⟩:=FtI.of_own h
  have h2:FtI T (w.setCell p u) A n c l bs:=h.keep (by simp) (fun b hb=> Below.heap_setCell w p u b (by have:=(hf.2 b hb).1;omega))
  refine⟨h2.1,?_⟩
  rcases h2.2 with ⟨h0,_⟩ |⟨g,cs,_,e,hh,hn,e2⟩
  · exact .inl h0
  · exact .inr ⟨g,cs,e,(hf.2 g (by rw[e2];simp)).1,hh,hn⟩
theorem OwB.far (h:OwB T b0 w s A n c x) {p:Addr}(hp:p.block < b0) (u:Value):OwB T b0 (w.setCell p u) s A n c x:=⟨h.1,h.2.far hp u⟩
theorem IsR.b (h:IsR w s A n c B m d x D):IsB w s A n c x:=⟨h.neg,h.mag⟩
theorem IsB.len (h:IsB w s A n c x):(dig x.natAbs).length=n:=h.2.lenN
theorem OwB.len (h:OwB T b0 w s A n c x):(dig x.natAbs).length=n:=h.rd.len
end
theorem signed_neg {s:Bool}{N:Nat}{x:Int}(hN:x.natAbs=N) (hs:N≠0→s=decide (x < 0)):(s && decide (0 < N))=decide (x < 0):=by
  rcases Nat.eq_zero_or_pos N with h0 | h0
  · subst h0
    have:x=0:=by omega
    subst this;simp
  · rw[hs (by omega)];simp[h0]

def AllOk (l:List RatD):Prop:=∀ k,k < l.length→OkR (pix l k)
def OkTo (l:List RatD) (k:Nat):Prop:=∀ j,j < k→OkR (pix l j)
theorem OkTo.zero (l:List RatD):OkTo l 0:=fun j hj=> by omega
theorem OkTo.step {l:List RatD}{k:Nat}(h:OkTo l k) (h0:OkR (pix l k)):OkTo l (k+1):=by
  intro j hj
  rcases Nat.lt_succ_iff_lt_or_eq.1 hj with hj | rfl
  · exact h j hj
  · exact h0
def IdxPostB (P:Prop) (w:World) (e:Ending) (w':World):Prop:=∃ i:Int,e=.returned (.int .i64 i)∧(P→i=-1)∧(¬ P→0≤i)∧Bl w w'
set_option maxHeartbeats 1600000 in
theorem areRatsF_any (w:World) {s:Bool}{A:Option Addr}{n c:Nat}{B:Option Addr}{m d:Nat}{r:RatD}{b:Bool}(h:RdR w s A n c B m d r) (hb:okR r=b) :
    Calls Tryz.prog 116 #[.agg #[.bool s,.slice A n c,.slice B m d]] w fun e w'=> e=.returned (.bool (!b))∧Bl w w':=by
  go_enter Tryz.func116,Tryz.ntmps116
  go_wp2_with fail
  refine(RatOk_any _ (h.alloc _)).mono ?_
  rw[hb]
  rintro e w1 ⟨rfl,hb1⟩
  go_wp2_with fail
  go_ret
  exact⟨rfl,slc⟩
set_option maxHeartbeats 1600000 in
theorem IndexRat_any (w:World) {A:Option Addr}{n c:Nat}{l:List RatD}(h:RdRS w A n c l) :
    Calls Tryz.prog 148 #[.slice A n c,.func (.func 116) #[] #[]] w (IdxPostB (AllOk l) w):=by
  have hn:=h.small
  have hl:=Lib.hid h.len
  go_enter Tryz.func148,Tryz.ntmps148
  go_wp2_with fail
  go_loopw [8] (fun i wr=> ∃ k:Nat,k≤n∧i=.int .i64 (k:Int)∧OkTo l k∧Bl w wr) (fun i _=> n - (intOf i).toNat)
  case atStart=> exact⟨0,Nat.zero_le _,rfl,OkTo.zero _,Bl.refl _⟩
  case round =>
    obtain⟨k,hk,rfl,hin,hbw⟩:=hrel
    by_cases hkn:k < n
    · have hki:(k:Int) < (n:Int):=by omega
      obtain⟨ad,rfl,hlta,hca⟩:=(h.bl hbw).cells k hkn
      obtain⟨s,A,n',c',B,m,d',⟨g0,g1,g2⟩,hx⟩:=hca
      by_cases ho:OkR (pix l k)
      · have hin':=hin.step ho
        have hok:=okR_of ho
        clear hin ho
        go_wp2_with fail
        refine(areRatsF_any _ hx hok).mono ?_
        rintro e w1 ⟨rfl,hb1⟩
        have hb2:Bl w w1:=slc
        clear hb1
        go_wp2_with fail
        go_roundw
        case rel=> exact⟨k+1,by omega,by go_num,hin',hb2⟩
        case measure=> simp[intOf];omega
      · have hno:¬ AllOk l:=fun ha=> ho (ha k (by rw[hl.out];exact hkn))
        have hno:=Lib.hid hno;rename_i h_;clear h_
        have hok:=okR_no ho
        clear hin ho
        go_wp2_with fail
        refine(areRatsF_any _ hx hok).mono ?_
        rintro e w1 ⟨rfl,hb1⟩
        have hb2:Bl w w1:=slc
        clear hb1
        go_wp2_with fail
        go_ret
        exact⟨_,rfl,fun ha=> absurd ha hno.out,fun _=> by omega,hb2⟩
    · have hall:AllOk l:=fun j hj=> hin j (by rw[hl.out] at hj;omega)
      have hall:=Lib.hid hall;rename_i h_;clear h_
      go_wp2_with fail
      go_ret
      exact⟨_,rfl,fun _=> rfl,fun hno=> absurd hall.out hno,hbw⟩
theorem ContainsRat_yes (w:World) {A:Option Addr}{n c:Nat}{l:List RatD}(h:RdRS w A n c l) (hp:AllOk l) :
    Calls Tryz.prog 115 #[.slice A n c,.func (.func 116) #[] #[]] w fun e w'=> e=.returned (.bool false)∧Bl w w':=by
  have hp:=Lib.hid hp;rename_i h_;clear h_
  go_enter Tryz.func115,Tryz.ntmps115
  go_wp2_with fail
  refine(IndexRat_any _ h).mono ?_
  rintro e w1 ⟨i,rfl,h1,_,hb⟩
  have h1:=h1 hp.out
  subst h1
  go_wp2_with fail
  go_ret
  exact⟨rfl,hb⟩
theorem areRats_yes (w:World) {A:Option Addr}{n c:Nat}{l:List RatD}(h:RdRS w A n c l) (hp:AllOk l) :
    Calls Tryz.prog 71 #[.slice A n c] w fun e w'=> e=.returned (.bool true)∧Bl w w':=by
  have hp:=Lib.hid hp;rename_i h_;clear h_
  go_enter Tryz.func71,Tryz.ntmps71
  go_wp2_with fail
  refine(ContainsRat_yes _ h hp.out).mono ?_
  rintro e w1 ⟨rfl,hb⟩
  go_wp2_with fail
  go_ret
  exact⟨rfl,hb⟩
theorem ContainsRat_no (w:World) {A:Option Addr}{n c:Nat}{l:List RatD}(h:RdRS w A n c l) (hp:¬ AllOk l) :
    Calls Tryz.prog 115 #[.slice A n c,.func (.func 116) #[] #[]] w fun e w'=> e=.returned (.bool true)∧Bl w w':=by
  have hp:=Lib.hid hp;rename_i h_;clear h_
  go_enter Tryz.func115,Tryz.ntmps115
  go_wp2_with fail
  refine(IndexRat_any _ h).mono ?_
  rintro e w1 ⟨i,rfl,_,h1,hb⟩
  have h1:=h1 hp.out
  go_wp2_with fail
  go_ret
  exact⟨rfl,hb⟩
theorem areRats_no (w:World) {A:Option Addr}{n c:Nat}{l:List RatD}(h:RdRS w A n c l) (hp:¬ AllOk l) :
    Calls Tryz.prog 71 #[.slice A n c] w fun e w'=> e=.returned (.bool false)∧Bl w w':=by
  have hp:=Lib.hid hp;rename_i h_;clear h_
  go_enter Tryz.func71,Tryz.ntmps71
  go_wp2_with fail
  refine(ContainsRat_no _ h hp.out).mono ?_
  rintro e w1 ⟨rfl,hb⟩
  go_wp2_with fail
  go_ret
  exact⟨rfl,hb⟩

/-- Two fractions in a row of six cells. -/
theorem RdRS.two {w:World}{g:Nat}{T:TypeId}{s:Bool}{A:Option Addr}{n c:Nat}{B:Option Addr}{m d:Nat}{r:RatD}{s':Bool}{A':Option Addr}{n' c':Nat}{B':Option Addr}{m' d':Nat}{r':RatD}
    (hb:Blk w g T #[.bool s,.slice A n c,.slice B m d,.bool s',.slice A' n' c',.slice B' m' d']) (h:RdR w s A n c B m d r) (k:RdR w s' A' n' c' B' m' d' r'):RdRS w (some ⟨g,0,none⟩) 2 2 [r,r']:=by
  refine⟨rfl,Nat.le_refl _,by omega,fun i hi =>⟨_,rfl,hb.lt,?_⟩⟩
  rw[Addr.add_lit,Nat.zero_add]
  obtain⟨k0,k1,k2,k3,k4,k5⟩:=bx6 hb
  rcases i with _ | i
  · exact⟨s,A,n,c,B,m,d,⟨k0,k1,k2⟩,h⟩
  · obtain rfl:i=0:=by omega
    exact⟨s',A',n',c',B',m',d',⟨k3,k4,k5⟩,k⟩
theorem allOk_two {r s:RatD}:AllOk [r,s]↔OkR r∧OkR s:=by
  constructor
  · intro h
    exact⟨h 0 (by simp),h 1 (by simp)⟩
  · rintro ⟨h1,h2⟩ k hk
    rcases k with _ | k
    · exact h1
    · obtain rfl:k=0:=by simp at hk;omega
      exact h2
end

end Go.Proofs.YtjaapemopbbfaaaGreat
