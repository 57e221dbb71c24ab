/- Lemmas. -/
import Derived.Test.YtmkcacgmnnlddaaGreatRows
import Derived.Test.YtmkcacgmnnlddaaGreatPCoarsenM07
import Derived.Test.YtmkcacgmnnlddaaGreatPCoarsenM03
namespace Go.Proofs.YtmkcacgmnnlddaaGreat
section
open Go.RowKit

section
variable {w W:World}{g:Nat}{T:TypeId}{cs:Array Value}{a b c a' b' c':Value}
theorem Blk.alloc (h:Blk w g T cs) (o:Obj):Blk (w.alloc o) g T cs:=h.bl ((Bl.refl w).alloc o)
theorem Blk.drew (h:Blk w g T cs):Blk w.drew g T cs:=h
theorem Blk.drewN (h:Blk w g T cs) (q:Nat):Blk (w.drewN q) g T cs:=h
theorem Blk.new1 (w:World) (o:Obj) (T:TypeId) (cs:Array Value):Blk ((w.alloc o).alloc (.cells cs T)) (w.heap.size+1) T cs:=by
  have:=Blk.new (w.alloc o) T cs
  rwa [World.size_alloc] at this
theorem Blk.new2 (w:World) (o o':Obj) (T:TypeId) (cs:Array Value):Blk (((w.alloc o).alloc o').alloc (.cells cs T)) (w.heap.size+1+1) T cs:=by
  have:=Blk.new1 (w.alloc o) o' T cs
  rwa [World.size_alloc] at this
theorem bx2 (h:Blk W g T #[a,b]):W.cell? ⟨g,0,none⟩=some a∧W.cell? ⟨g,1,none⟩=some b:=⟨h.cell 0,h.cell 1⟩
theorem bx3 (h:Blk W g T #[a,b,c]):W.cell? ⟨g,0,none⟩=some a∧W.cell? ⟨g,1,none⟩=some b∧W.cell? ⟨g,2,none⟩=some c:=⟨h.cell 0,h.cell 1,h.cell 2⟩
theorem bx6 (h:Blk W g T #[a,b,c,a',b',c']):W.cell? ⟨g,0,none⟩=some a∧W.cell? ⟨g,1,none⟩=some b∧W.cell? ⟨g,2,none⟩=some c∧W.cell? ⟨g,3,none⟩=some a'∧W.cell? ⟨g,4,none⟩=some b'∧W.cell? ⟨g,5,none⟩=some c':=⟨h.cell 0,h.cell 1,h.cell 2,h.cell 3,h.cell 4,h.cell 5⟩
/-- Block g has k cells that may be written. -/
def Wk (k:Nat) (T:TypeId) (g:Nat) (W:World):Prop:=∃ cs,Blk W g T cs∧cs.size=k
variable {k:Nat}
theorem Wk.bl (h:Wk k T g w) (hb:Bl w W):Wk k T g W:=by
  obtain⟨cs,h1,h2⟩:=h
  exact⟨cs,h1.bl hb,h2⟩
theorem Wk.alloc (h:Wk k T g w) (o:Obj):Wk k T g (w.alloc o):=h.bl ((Bl.refl w).alloc o)
theorem Wk.drew (h:Wk k T g w):Wk k T g w.drew:=h
theorem Wk.drewN (h:Wk k T g w) (q:Nat):Wk k T g (w.drewN q):=h
theorem Wk.set (h:Wk k T g w) (i:Nat) (u:Value):Wk k T g (w.setCell ⟨g,i,none⟩ u):=by
  obtain⟨cs,h1,h2⟩:=h
  exact⟨_,h1.set_ i u,by simp[h2]⟩
theorem Wk.far (h:Wk k T g w) {p:Addr}(hp:g≠p.block) (u:Value):Wk k T g (w.setCell p u):=by
  obtain⟨cs,h1,h2⟩:=h
  exact⟨cs,h1.far hp u,h2⟩
theorem Wk.of (h:Blk W g T cs) (hk:cs.size=k):Wk k T g W:=⟨cs,h,hk⟩
theorem Wk.lt (h:Wk k T g w):g < w.heap.size:=by
  obtain⟨cs,h1,_⟩:=h
  exact h1.lt
theorem Wk.val_ (h:Wk k T g W) {i:Nat}(hi:i < k):∃ v,W.cell? ⟨g,i,none⟩=some v:=by
  obtain⟨cs,h1,h2⟩:=h
  exact h1.some (by omega)
theorem Wk.out2 (h:Wk 2 T g W):(W.cell? ⟨g,0,none⟩=some (cellD W g 0)∧W.cell? ⟨g,1,none⟩=some (cellD W g 1))∧W.frozen? ⟨g,0,none⟩=false∧W.frozen? ⟨g,1,none⟩=false:=by
  obtain⟨cs,h1,h2⟩:=h
  exact⟨⟨cellD_eq (h1.some (by omega)),cellD_eq (h1.some (by omega))⟩,h1.frozen 0,h1.frozen 1⟩
theorem Wk.out3 (h:Wk 3 T g W):(W.cell? ⟨g,0,none⟩=some (cellD W g 0)∧W.cell? ⟨g,1,none⟩=some (cellD W g 1)∧W.cell? ⟨g,2,none⟩=some (cellD W g 2))∧W.frozen? ⟨g,0,none⟩=false∧W.frozen? ⟨g,1,none⟩=false∧W.frozen? ⟨g,2,none⟩=false:=by
  obtain⟨cs,h1,h2⟩:=h
  exact⟨⟨cellD_eq (h1.some (by omega)),cellD_eq (h1.some (by omega)),cellD_eq (h1.some (by omega))⟩,h1.frozen 0,h1.frozen 1,h1.frozen 2⟩
theorem Wk.out6 (h:Wk 6 T g W):(W.cell? ⟨g,0,none⟩=some (cellD W g 0)∧W.cell? ⟨g,1,none⟩=some (cellD W g 1)∧W.cell? ⟨g,2,none⟩=some (cellD W g 2)∧W.cell? ⟨g,3,none⟩=some (cellD W g 3)∧W.cell? ⟨g,4,none⟩=some (cellD W g 4)∧W.cell? ⟨g,5,none⟩=some (cellD W g 5)) ∧
    W.frozen? ⟨g,0,none⟩=false∧W.frozen? ⟨g,1,none⟩=false∧W.frozen? ⟨g,2,none⟩=false∧W.frozen? ⟨g,3,none⟩=false∧W.frozen? ⟨g,4,none⟩=false∧W.frozen? ⟨g,5,none⟩=false:=by
  obtain⟨cs,h1,h2⟩:=h
  exact⟨⟨cellD_eq (h1.some (by omega)),cellD_eq (h1.some (by omega)),cellD_eq (h1.some (by omega)),cellD_eq (h1.some (by omega)),cellD_eq (h1.some (by omega)),cellD_eq (h1.some (by omega))⟩,h1.frozen 0,h1.frozen 1,h1.frozen 2,h1.frozen 3,h1.frozen 4,h1.frozen 5⟩
end

theorem Blk.new3 (w:World) (o o' o'':Obj) (T:TypeId) (cs:Array Value):Blk ((((w.alloc o).alloc o').alloc o'').alloc (.cells cs T)) (w.heap.size+1+1+1) T cs:=by
  have:=Blk.new2 (w.alloc o) o' o'' T cs
  rwa [World.size_alloc] at this
/-- What is to be shown of a block goes by itself. -/
theorem bts {P:Prop}(h:P:=by repeat (first |(with_reducible first | assumption | exact Blk.new _ _ _ | exact Blk.new1 _ _ _ _ | exact Blk.new2 _ _ _ _ _ | exact Blk.new3 _ _ _ _ _ _ | exact Wk.of (Blk.new _ _ _) rfl | exact Wk.of (Blk.new1 _ _ _ _) rfl | exact Wk.of (Blk.new2 _ _ _ _ _) rfl | exact Wk.of (Blk.new3 _ _ _ _ _ _) rfl | refine Blk.drew ?_ | refine Blk.drewN ?_ _ | refine Wk.drew ?_ | refine Wk.drewN ?_ _ | refine Blk.alloc ?_ _ | refine Wk.alloc ?_ _ | refine Wk.set ?_ _ _) |(with_reducible refine Blk.far ?_ (by simp <;> omega) _) |(with_reducible refine Wk.far ?_ (by simp <;> omega) _) |(with_reducible refine Blk.bl ?_ ‹Bl _ _›) |(with_reducible refine Wk.bl ?_ ‹Bl _ _›))):P:=h
theorem Wk.put2 {W:World}{g:Nat}{T:TypeId}(h:Wk 2 T g W) (a b:Value):Blk ((W.setCell ⟨g,0,none⟩ a).setCell ⟨g,1,none⟩ b) g T #[a,b]:=by
  obtain⟨⟨l⟩,h1,h2⟩:=h
  have h3:=(h1.set_ 0 a).set_ 1 b
  rcases l with _ |⟨u,_ |⟨v,_ |⟨z,l⟩⟩⟩ <;> simp at h2
  exact h3
theorem Wk.put3 {W:World}{g:Nat}{T:TypeId}(h:Wk 3 T g W) (a b c:Value):Blk (((W.setCell ⟨g,0,none⟩ a).setCell ⟨g,1,none⟩ b).setCell ⟨g,2,none⟩ c) g T #[a,b,c]:=by
  obtain⟨⟨l⟩,h1,h2⟩:=h
  have h3:=((h1.set_ 0 a).set_ 1 b).set_ 2 c
  rcases l with _ |⟨u,_ |⟨v,_ |⟨y,_ |⟨z,l⟩⟩⟩⟩ <;> simp at h2
  exact h3
theorem wk_new {w W:World}{T:TypeId}{cs:Array Value}(hb:Bl (w.alloc (.cells cs T)) W):Wk cs.size T w.heap.size W:=(Wk.of (Blk.new w T cs) rfl).bl hb

theorem wk_newd {w W:World}{T:TypeId}{cs:Array Value}(hb:Bl (w.alloc (.cells cs T)).drew W):Wk cs.size T w.heap.size W:=((Wk.of (Blk.new w T cs) rfl).drew).bl hb

/-- A signed integer in memory. -/
def IsB (w:World) (s:Bool) (A:Option Addr) (n c:Nat) (x:Int):Prop:=s=decide (x < 0)∧IsN w A n c x.natAbs
/-- .. in memory of its own. -/
def OwB (T:TypeId) (b0:Nat) (w:World) (s:Bool) (A:Option Addr) (n c:Nat) (x:Int):Prop:=s=decide (x < 0)∧OwI T b0 w A n c (ints (dig x.natAbs))
section
variable {T:TypeId}{b0 b1:Nat}{w W:World}{s:Bool}{A B:Option Addr}{n c m d:Nat}{x:Int}{D:Nat}
theorem IsB.mg (h:IsB w s A n c x):IsN w A n c x.natAbs:=h.2
theorem IsB.bl (h:IsB w s A n c x) (hb:Bl w W):IsB W s A n c x:=⟨h.1,h.2.bl hb⟩
theorem IsB.of (h:IsN w A n c D):IsB w false A n c (D:Int):=⟨by simp,by rw[Int.natAbs_natCast];exact h⟩
theorem OwB.rd (h:OwB T b0 w s A n c x):IsB w s A n c x:=⟨h.1,h.2.rd⟩
theorem OwB.bl (h:OwB T b0 w s A n c x) (hb:Bl w W):OwB T b0 W s A n c x:=⟨h.1,h.2.bl hb⟩
theorem OwB.mono (h:OwB T b1 w s A n c x) (hb:b0≤b1):OwB T b0 w s A n c x:=⟨h.1,h.2.mono hb⟩
theorem OwI.far {l:List Int}(h:OwI T b0 w A n c l) {p:Addr}(hp:p.block < b0) (u:Value):OwI T b0 (w.setCell p u) A n c l:=by
  obtain⟨bs,h,hf⟩:=FtI.of_own h
  have h2:FtI T (w.setCell p u) A n c l bs:=h.keep (by simp) (fun b hb=> Below.heap_setCell w p u b (by have:=(hf.2 b hb).1;omega))
  refine⟨h2.1,?_⟩
  rcases h2.2 with ⟨h0,_⟩ |⟨g,cs,_,e,hh,hn,e2⟩
  · exact .inl h0
  · exact .inr ⟨g,cs,e,(hf.2 g (by rw[e2];simp)).1,hh,hn⟩
theorem OwB.far (h:OwB T b0 w s A n c x) {p:Addr}(hp:p.block < b0) (u:Value):OwB T b0 (w.setCell p u) s A n c x:=⟨h.1,h.2.far hp u⟩
theorem IsR.b (h:IsR w s A n c B m d x D):IsB w s A n c x:=⟨h.neg,h.mag⟩
theorem IsB.len (h:IsB w s A n c x):(dig x.natAbs).length=n:=h.2.lenN
theorem OwB.len (h:OwB T b0 w s A n c x):(dig x.natAbs).length=n:=h.rd.len
end
theorem signed_neg {s:Bool}{N:Nat}{x:Int}(hN:x.natAbs=N) (hs:N≠0→s=decide (x < 0)):(s && decide (0 < N))=decide (x < 0):=by
  rcases Nat.eq_zero_or_pos N with h0 | h0
  · subst h0
    have:x=0:=by omega
    subst this;simp
  · rw[hs (by omega)];simp[h0]

def AllOk (l:List RatD):Prop:=∀ k,k < l.length→OkR (pix l k)
def OkTo (l:List RatD) (k:Nat):Prop:=∀ j,j < k→OkR (pix l j)
theorem OkTo.zero (l:List RatD):OkTo l 0:=fun j hj=> by omega
theorem OkTo.step {l:List RatD}{k:Nat}(h:OkTo l k) (h0:OkR (pix l k)):OkTo l (k+1):=by
  intro j hj
  rcases Nat.lt_succ_iff_lt_or_eq.1 hj with hj | rfl
  · exact h j hj
  · exact h0
def IdxPostB (P:Prop) (w:World) (e:Ending) (w':World):Prop:=∃ i:Int,e=.returned (.int .i64 i)∧(P→i=-1)∧(¬ P→0≤i)∧Bl w w'
set_option maxHeartbeats 1600000 in
theorem areRatsF_any (w:World) {s:Bool}{A:Option Addr}{n c:Nat}{B:Option Addr}{m d:Nat}{r:RatD}{b:Bool}(h:RdR w s A n c B m d r) (hb:okR r=b) :
    Calls Tryz.prog 124 #[.agg #[.bool s,.slice A n c,.slice B m d]] w fun e w'=> e=.returned (.bool (!b))∧Bl w w':=by
  go_enter Tryz.func124,Tryz.ntmps124
  go_wp2_with fail
  refine(RatOk_any _ (h.alloc _)).mono ?_
  rw[hb]
  rintro e w1 ⟨rfl,hb1⟩
  go_wp2_with fail
  go_ret
  exact⟨rfl,slc⟩
set_option maxHeartbeats 1600000 in
theorem IndexRat_any (w:World) {A:Option Addr}{n c:Nat}{l:List RatD}(h:RdRS w A n c l) :
    Calls Tryz.prog 156 #[.slice A n c,.func (.func 124) #[] #[]] w (IdxPostB (AllOk l) w):=by
  have hn:=h.small
  have hl:=Lib.hid h.len
  go_enter Tryz.func156,Tryz.ntmps156
  go_wp2_with fail
  go_loopw [8] (fun i wr=> ∃ k:Nat,k≤n∧i=.int .i64 (k:Int)∧OkTo l k∧Bl w wr) (fun i _=> n - (intOf i).toNat)
  case atStart=> exact⟨0,Nat.zero_le _,rfl,OkTo.zero _,Bl.refl _⟩
  case round =>
    obtain⟨k,hk,rfl,hin,hbw⟩:=hrel
    by_cases hkn:k < n
    · have hki:(k:Int) < (n:Int):=by omega
      obtain⟨ad,rfl,hlta,hca⟩:=(h.bl hbw).cells k hkn
      obtain⟨s,A,n',c',B,m,d',⟨g0,g1,g2⟩,hx⟩:=hca
      by_cases ho:OkR (pix l k)
      · have hin':=hin.step ho
        have hok:=okR_of ho
        clear hin ho
        go_wp2_with fail
        refine(areRatsF_any _ hx hok).mono ?_
        rintro e w1 ⟨rfl,hb1⟩
        have hb2:Bl w w1:=slc
        clear hb1
        go_wp2_with fail
        go_roundw
        case rel=> exact⟨k+1,by omega,by go_num,hin',hb2⟩
        case measure=> simp[intOf];omega
      · have hno:¬ AllOk l:=fun ha=> ho (ha k (by rw[hl.out];exact hkn))
        have hno:=Lib.hid hno;rename_i h_;clear h_
        have hok:=okR_no ho
        clear hin ho
        go_wp2_with fail
        refine(areRatsF_any _ hx hok).mono ?_
        rintro e w1 ⟨rfl,hb1⟩
        have hb2:Bl w w1:=slc
        clear hb1
        go_wp2_with fail
        go_ret
        exact⟨_,rfl,fun ha=> absurd ha hno.out,fun _=> by omega,hb2⟩
    · have hall:AllOk l:=fun j hj=> hin j (by rw[hl.out] at hj;omega)
      have hall:=Lib.hid hall;rename_i h_;clear h_
      go_wp2_with fail
      go_ret
      exact⟨_,rfl,fun _=> rfl,fun hno=> absurd hall.out hno,hbw⟩
theorem ContainsRat_yes (w:World) {A:Option Addr}{n c:Nat}{l:List RatD}(h:RdRS w A n c l) (hp:AllOk l) :
    Calls Tryz.prog 123 #[.slice A n c,.func (.func 124) #[] #[]] w fun e w'=> e=.returned (.bool false)∧Bl w w':=by
  have hp:=Lib.hid hp;rename_i h_;clear h_
  go_enter Tryz.func123,Tryz.ntmps123
  go_wp2_with fail
  refine(IndexRat_any _ h).mono ?_
  rintro e w1 ⟨i,rfl,h1,_,hb⟩
  have h1:=h1 hp.out
  subst h1
  go_wp2_with fail
  go_ret
  exact⟨rfl,hb⟩
theorem areRats_yes (w:World) {A:Option Addr}{n c:Nat}{l:List RatD}(h:RdRS w A n c l) (hp:AllOk l) :
    Calls Tryz.prog 92 #[.slice A n c] w fun e w'=> e=.returned (.bool true)∧Bl w w':=by
  have hp:=Lib.hid hp;rename_i h_;clear h_
  go_enter Tryz.func92,Tryz.ntmps92
  go_wp2_with fail
  refine(ContainsRat_yes _ h hp.out).mono ?_
  rintro e w1 ⟨rfl,hb⟩
  go_wp2_with fail
  go_ret
  exact⟨rfl,hb⟩
/-- Two fractions in a row of six cells. -/
theorem RdRS.two {w:World}{g:Nat}{T:TypeId}{s:Bool}{A:Option Addr}{n c:Nat}{B:Option Addr}{m d:Nat}{r:RatD}{s':Bool}{A':Option Addr}{n' c':Nat}{B':Option Addr}{m' d':Nat}{r':RatD}
    (hb:Blk w g T #[.bool s,.slice A n c,.slice B m d,.bool s',.slice A' n' c',.slice B' m' d']) (h:RdR w s A n c B m d r) (k:RdR w s' A' n' c' B' m' d' r'):RdRS w (some ⟨g,0,none⟩) 2 2 [r,r']:=by
  refine⟨rfl,Nat.le_refl _,by omega,fun i hi =>⟨_,rfl,hb.lt,?_⟩⟩
  rw[Addr.add_lit,Nat.zero_add]
  obtain⟨k0,k1,k2,k3,k4,k5⟩:=bx6 hb
  rcases i with _ | i
  · exact⟨s,A,n,c,B,m,d,⟨k0,k1,k2⟩,h⟩
  · obtain rfl:i=0:=by omega
    exact⟨s',A',n',c',B',m',d',⟨k3,k4,k5⟩,k⟩
theorem allOk_two {r s:RatD}:AllOk [r,s]↔OkR r∧OkR s:=by
  constructor
  · intro h
    exact⟨h 0 (by simp),h 1 (by simp)⟩
  · rintro ⟨h1,h2⟩ k hk
    rcases k with _ | k
    · exact h1
    · obtain rfl:k=0:=by simp at hk;omega
      exact h2
end

section
open Go.RowKit

instance:Inhabited (Rat × Rat):=⟨(0,0)⟩
def tp (p:Rat × Rat):PtD:=⟨toR p.1,toR p.2⟩
theorem pix_map {l:List (Rat × Rat)}{k:Nat}(h:k < l.length):pix (l.map tp) k=tp (pix l k):=by simp[pix,h]
/-- A fraction of one limb. -/
def SmQ (q:Rat):Prop:=q.num.natAbs < 1000000000∧q.den < 1000000000
instance (q:Rat):Decidable (SmQ q):=by unfold SmQ;infer_instance
theorem SmQ.mag {q:Rat}(h:SmQ q):(toR q).mag.length≤1:=by
  show (ints (dig q.num.natAbs)).length≤1
  rw[ints_len]
  exact dig_len_le.2 (by simpa [Bs] using h.1)
theorem SmQ.den {q:Rat}(h:SmQ q):(toR q).den.length=1:=by
  show (ints (dig q.den)).length=1
  rw[ints_len]
  have h1:(dig q.den).length≤1:=dig_len_le.2 (by simpa [Bs] using h.2)
  have h2:0 < (dig q.den).length:=dig_len_pos.2 q.den_pos
  omega
theorem SmQ.fit {q:Rat}(h:SmQ q):Fit q:=⟨Nat.lt_trans h.1 (by decide),Nat.lt_trans h.2 (by decide)⟩
/-- The sign of a turn. -/
def trn (xs ys:List Int) (a b c:Int):Int :=
  cmpZ ((ix xs b.toNat - ix xs a.toNat) * (ix ys c.toNat - ix ys a.toNat) - (ix ys b.toNat - ix ys a.toNat) * (ix xs c.toNat - ix xs a.toNat)) 0
def PlB (n:Nat) (xs ys:List Int):Prop:=∀ k,k < n→-536870912≤ix xs k∧ix xs k≤536870912∧-536870912≤ix ys k∧ix ys k≤536870912
theorem mul_bd {a b:Int}(h1 : -1073741824≤a) (h2:a≤1073741824) (h3 : -1073741824≤b) (h4:b≤1073741824) : -1152921504606846976≤a * b∧a * b≤1152921504606846976:=by
  have h:(a * b).natAbs≤1073741824 * 1073741824:=by
    rw[Int.natAbs_mul]
    exact Nat.mul_le_mul (by omega) (by omega)
  omega
theorem rdi_lit {w:World}{g n c:Nat}{l:List Int}(h:RdI w (some ⟨g,0,none⟩) n c l) {k:Nat}(hk:k < n):w.cell? ⟨g,k,none⟩=some (.int .i64 (ix l k)):=by
  obtain⟨_,e,_,hc⟩:=h.cells k hk
  cases e
  rw[Addr.add_lit,Nat.zero_add] at hc
  exact hc
theorem bx5 {W:World}{g:Nat}{T:TypeId}{a b c d e:Value}(h:Blk W g T #[a,b,c,d,e]):W.cell? ⟨g,0,none⟩=some a∧W.cell? ⟨g,1,none⟩=some b∧W.cell? ⟨g,2,none⟩=some c∧W.cell? ⟨g,3,none⟩=some d∧W.cell? ⟨g,4,none⟩=some e:=⟨h.cell 0,h.cell 1,h.cell 2,h.cell 3,h.cell 4⟩
end

section
open Go.RowKit


set_option maxHeartbeats 1600000 in
theorem signed_any (w:World) (s:Bool) {A:Option Addr}{n c N:Nat}(h:IsN w A n c N) :
    Calls Tryz.prog 169 #[.bool s,.slice A n c] w fun e w'=> ∃ s',e=.returned (.agg #[.bool s',.slice A n c])∧Hid (s'=(s && decide (0 < N)))∧Bl w w':=by
  have hl:=h.lenN
  have hp:=dig_len_pos (n:=N)
  rw[hl] at hp
  clear hl
  rcases s with _ | _
  · have hs:=Lib.hid (show false=(false && decide (0 < N)) from rfl)
    clear hp
    go_enter Tryz.func169,Tryz.ntmps169
    go_wp2_with fail
    exact bodyPost_ret (v:=.agg #[.bool false,.slice A n c]) (by simp[results,Tryz.results169,go_sem]) rfl ⟨_,rfl,hs,slc⟩
  · rcases Nat.eq_zero_or_pos n with h0 | h0
    · have hN:N=0:=by omega
      have hs:=Lib.hid (show false=(true && decide (0 < N)) by simp[hN])
      subst h0
      clear hp hN
      go_enter Tryz.func169,Tryz.ntmps169
      go_wp2_with fail
      exact bodyPost_ret (v:=.agg #[.bool false,.slice A 0 c]) (by simp[results,Tryz.results169,go_sem]) rfl ⟨_,rfl,hs,slc⟩
    · have hs:=Lib.hid (show true=(true && decide (0 < N)) by simp;omega)
      have h0i:0 < (n:Int):=by omega
      clear hp
      go_enter Tryz.func169,Tryz.ntmps169
      go_wp2_with fail
      exact bodyPost_ret (v:=.agg #[.bool true,.slice A n c]) (by simp[results,Tryz.results169,go_sem]) rfl ⟨_,rfl,hs,slc⟩


theorem add_same {x y:Int}{s s':Bool}(hs:s=decide (x < 0)) (ht:s=decide (y < 0)) (h:s'=(s && decide (0 < x.natAbs+y.natAbs))):s'=decide (x+y < 0)∧(x+y).natAbs=x.natAbs+y.natAbs:=by
  rcases s with _ | _
  · have h1:¬ x < 0:=by simpa using hs.symm
    have h2:¬ y < 0:=by simpa using ht.symm
    rw[h]
    exact⟨by simp;omega,by omega⟩
  · have h1:x < 0:=by simpa using hs.symm
    have h2:y < 0:=by simpa using ht.symm
    rw[h]
    refine⟨?_,by omega⟩
    rw[decide_eq_true (show 0 < x.natAbs+y.natAbs by omega),decide_eq_true (show x+y < 0 by omega)];rfl
theorem add_diff {x y:Int}{s t s':Bool}(hs:s=decide (x < 0)) (ht:t=decide (y < 0)) (hne:s=!t) (hle:y.natAbs≤x.natAbs) (h:s'=(s && decide (0 < x.natAbs - y.natAbs))):s'=decide (x+y < 0)∧(x+y).natAbs=x.natAbs - y.natAbs:=by
  rcases t with _ | _
  · obtain rfl:s=true:=hne
    have h1:x < 0:=by simpa using hs.symm
    have h2:¬ y < 0:=by simpa using ht.symm
    rw[h]
    refine⟨?_,by omega⟩
    rw[Bool.true_and,Bool.eq_iff_iff]
    simp
    omega
  · obtain rfl:s=false:=hne
    have h1:¬ x < 0:=by simpa using hs.symm
    have h2:y < 0:=by simpa using ht.symm
    rw[h]
    exact⟨by simp;omega,by omega⟩
theorem add_diff2 {x y:Int}{s t s':Bool}(hs:s=decide (x < 0)) (ht:t=decide (y < 0)) (hne:t=!s) (hle:x.natAbs≤y.natAbs) (h:s'=(t && decide (0 < y.natAbs - x.natAbs))):s'=decide (x+y < 0)∧(x+y).natAbs=y.natAbs - x.natAbs:=by
  rw[Int.add_comm];exact add_diff ht hs hne hle h
theorem natOf_int (w:World) {u:Int}(N:Nat) (hu:u=(N:Int)) (hN:N < 18446744073709551616) :
    Calls Tryz.prog 170 #[.int .u64 u] w fun e w'=> ∃ A n c,e=.returned (.slice A n c)∧OwI 3 w.heap.size w' A n c (ints (dig N))∧Bl w w':=by
  subst hu
  exact natOf_any w N hN
set_option maxRecDepth 100000 in
set_option maxHeartbeats 1600000 in
theorem BigIntOf_any (w:World) (x:Int) (h1 : -9223372036854775808≤x) (h2:x≤9223372036854775807) :
    Calls Tryz.prog 137 #[.int .i64 x] w fun e w'=> ∃ s' A' n' c',e=.returned (.agg #[.bool s',.slice A' n' c'])∧OwB 3 w.heap.size w' s' A' n' c' x∧Bl w w':=by
  rcases Int.lt_or_le x 0 with hx | hx
  · skip
    have hu:Hid (IntKind.u64.wrap (-IntKind.u64.wrap x)=((x.natAbs:Nat):Int)):=by unfold Hid;simp[IntKind.wrap,IntKind.bits,IntKind.signed];omega
    go_enter Tryz.func137,Tryz.ntmps137
    go_wp2_with fail
    refine(natOf_int _ x.natAbs hu.out (by omega)).mono ?_
    rintro e w3 ⟨A1,k1,c1,rfl,hO,hb3⟩
    have hr3:Wk 2 52 w.heap.size w3:=bts
    have hz:=hr3.lt
    have hz1:w.heap.size+1≤(w.alloc (.cells #[.bool false,.slice none 0 0] 52)).heap.size:=by simp
    have hO1:OwI 3 (w.heap.size+1) w3 A1 k1 c1 (ints (dig x.natAbs)):=hO.mono hz1
    have hb3:Bl w w3:=slc
    clear hO
    go_wp2_with fail
    refine(signed_any _ true hO1.rd).mono ?_
    rintro e w4 ⟨s',rfl,hs',hb4⟩
    have hr4:Wk 2 52 w.heap.size w4:=hr3.bl hb4
    obtain⟨v0,x0⟩:=hr4.val_ (i:=0) (by omega)
    obtain⟨v1,x1⟩:=hr4.val_ (i:=1) (by omega)
    have hg:=hr4.lt
    obtain⟨cs4,hB4,hc4⟩:=hr4
    have hf0:=hB4.frozen 0
    have hf1:=hB4.frozen 1
    have hO4:OwB 3 (w.heap.size+1) w4 s' A1 k1 c1 x:=⟨by rw[hs'.out];exact signed_neg rfl (fun _ =>(decide_eq_true hx).symm),hO1.bl hb4⟩
    go_wp2_with fail
    exact bodyPost_ret (v:=.agg #[.bool s',.slice A1 k1 c1]) (by simp[results,Tryz.results137,go_sem,x0,x1]) rfl ⟨_,_,_,_,rfl,((hO4.far (by simp) _).far (by simp) _).mono (by omega),slc⟩
  · skip
    have hu:Hid (x=((x.natAbs:Nat):Int)):=by unfold Hid;omega
    go_enter Tryz.func137,Tryz.ntmps137
    go_wp2_with fail
    refine(natOf_int _ x.natAbs hu.out (by omega)).mono ?_
    rintro e w3 ⟨A1,k1,c1,rfl,hO,hb3⟩
    have hr3:Wk 2 52 w.heap.size w3:=bts
    have hz:=hr3.lt
    have hz1:w.heap.size+1≤(w.alloc (.cells #[.bool false,.slice none 0 0] 52)).heap.size:=by simp
    have hO1:OwI 3 (w.heap.size+1) w3 A1 k1 c1 (ints (dig x.natAbs)):=hO.mono hz1
    have hb3:Bl w w3:=slc
    clear hO
    go_wp2_with fail
    refine(signed_any _ false hO1.rd).mono ?_
    rintro e w4 ⟨s',rfl,hs',hb4⟩
    have hr4:Wk 2 52 w.heap.size w4:=hr3.bl hb4
    obtain⟨v0,x0⟩:=hr4.val_ (i:=0) (by omega)
    obtain⟨v1,x1⟩:=hr4.val_ (i:=1) (by omega)
    have hg:=hr4.lt
    obtain⟨cs4,hB4,hc4⟩:=hr4
    have hf0:=hB4.frozen 0
    have hf1:=hB4.frozen 1
    have hO4:OwB 3 (w.heap.size+1) w4 s' A1 k1 c1 x:=⟨by rw[hs'.out];exact signed_neg rfl (fun _ =>(decide_eq_false (by omega)).symm),hO1.bl hb4⟩
    go_wp2_with fail
    exact bodyPost_ret (v:=.agg #[.bool s',.slice A1 k1 c1]) (by simp[results,Tryz.results137,go_sem,x0,x1]) rfl ⟨_,_,_,_,rfl,((hO4.far (by simp) _).far (by simp) _).mono (by omega),slc⟩

theorem tdiv_exact (x:Int) (g:Nat) (hg:g ∣ x.natAbs):x.tdiv (g:Int)=x / (g:Int):=by
  have h:(g:Int) ∣ x:=Int.ofNat_dvd_left.2 hg
  exact Int.tdiv_eq_ediv_of_dvd h
theorem ofFrac_fit {x:Int}{D:Nat}(h1:x.natAbs≤4611686018427387904) (h4:D≤4611686018427387904):ofFrac x D=raw (x / (Nat.gcd x.natAbs D:Int)) (D / Nat.gcd x.natAbs D):=by
  unfold ofFrac
  have big:(4611686018427387904:Nat) < Bs ^ 24:=by decide
  rw[if_pos ⟨dig_len_le.2 (Nat.lt_of_le_of_lt (Nat.div_le_self _ _) (by omega)),dig_len_le.2 (Nat.lt_of_le_of_lt (Nat.div_le_self _ _) (by omega))⟩]
set_option maxRecDepth 100000 in
set_option maxHeartbeats 4000000 in
theorem ofInts_any (w:World) (x:Int) (D:Nat) (h1 : -4611686018427387904≤x) (h2:x≤4611686018427387904) (h3:0 < D) (h4:D≤4611686018427387904) :
    Calls Tryz.prog 166 #[.int .i64 x,.int .i64 (D:Int)] w fun e w'=> ∃ s' A' n' c' B' m' d',e=.returned (.agg #[.bool s',.slice A' n' c',.slice B' m' d'])∧OwR 3 w.heap.size w' s' A' n' c' B' m' d' (ofFrac x D)∧Bl w w':=by
  have hg0:=gcd_pos_den (n:=x.natAbs) h3
  have hfit:=ofFrac_fit (x:=x) (D:=D) (by omega) h4
  have hgx:Nat.gcd x.natAbs D ∣ x.natAbs:=Nat.gcd_dvd_left _ _
  have hgle:Nat.gcd x.natAbs D≤D:=Nat.le_of_dvd h3 (Nat.gcd_dvd_right _ _)
  have hyn:=natAbs_ediv_gcd x _ hgx
  have hyt:=tdiv_exact x _ hgx
  generalize hgd:Nat.gcd x.natAbs D=g at *
  have hyl:x.natAbs / g≤x.natAbs:=Nat.div_le_self _ _
  have hEl:D / g≤D:=Nat.div_le_self _ _
  obtain⟨y,hy⟩:∃ y,y=x / (g:Int):=⟨_,rfl⟩
  obtain⟨E,hE⟩:∃ E,E=D / g:=⟨_,rfl⟩
  rw[← hy,← hE] at hfit
  rw[← hy] at hyn hyt
  rw[← hE] at hEl
  have hfin:=Lib.hid hfit
  have hy1 : -9223372036854775808≤y:=by omega
  have hy2:y≤9223372036854775807:=by omega
  have hE2:E < 18446744073709551616:=by omega
  have e2:IntKind.i64.wrap (x.tdiv (g:Int))=y:=by rw[hyt];simp[IntKind.wrap,IntKind.bits,IntKind.signed];omega
  have hE4:Hid (IntKind.u64.wrap (IntKind.i64.wrap ((D:Int) / (g:Int)))=(E:Int)):=by unfold Hid;rw[show (D:Int) / (g:Int)=(E:Int) from by rw[hE];rfl];simp[IntKind.wrap,IntKind.bits,IntKind.signed];omega
  have hgi:0 < (g:Int):=by omega
  have hgn:((g:Int) == 0)=false:=by simp;omega
  have hgn2:(g:Int)≠0:=by omega
  have hgn3:g≠0:=by omega
  have hgd:=Lib.hid hgd;rename_i h_;clear h_
  clear hE hy hfit hyn hyt hgx hEl hyl
  rcases Int.lt_or_le x 0 with hx0 | hx0
  · skip
    have hmx:x < -x:=by omega
    have hu:Hid (-x=((x.natAbs:Nat):Int)):=by unfold Hid;omega
    go_enter Tryz.func166,Tryz.ntmps166
    go_wp2_with fail
    refine(gcd_int _ x.natAbs D hu.out (by omega) (by omega)).mono ?_
    rintro e w5 ⟨rfl,q5,rfl⟩
    rw[hgd.out]
    go_wp2_with fail
    refine wp_gen (fun W=> Bl w W∧Wk 3 54 w.heap.size W) ⟨slc,bts⟩ ?_
    rintro W ⟨hbW,hr⟩
    go_region_held3 (fun w' =>(w'.cell? ⟨w.heap.size,0,none⟩=some (cellD w' (w.heap.size) 0)∧w'.cell? ⟨w.heap.size,1,none⟩=some (cellD w' (w.heap.size) 1)∧w'.cell? ⟨w.heap.size,2,none⟩=some (cellD w' (w.heap.size) 2))∧w'.frozen? ⟨w.heap.size,0,none⟩=false∧w'.frozen? ⟨w.heap.size,1,none⟩=false∧w'.frozen? ⟨w.heap.size,2,none⟩=false) (first | exact(Wk.out3 (T:=54) bts)) (first |(go_at_call 137;with_reducible refine(BigIntOf_any _ y hy1 hy2).mono ?_;rintro e w3 ⟨s',A1,k1,c1,rfl,hO1,hb3⟩) |(go_at_call 170;with_reducible refine(natOf_int _ E hE4.out hE2).mono ?_;rintro e w4 ⟨A2,k2,c2,rfl,hO2,hb4⟩))
    have hrl:Wk 3 54 (w.heap.size) w4:=bts
    have hbl:Bl w w4:=slc
    obtain⟨v0,x0⟩:=hrl.val_ (i:=0) (by omega)
    obtain⟨v1,x1⟩:=hrl.val_ (i:=1) (by omega)
    obtain⟨v2,x2⟩:=hrl.val_ (i:=2) (by omega)
    have hg:=hrl.lt
    have hz:w.heap.size+1≤w3.heap.size:=Nat.le_trans hr.lt (show W.heap.size≤w3.heap.size from (Bl.size hb3:W.drew.heap.size≤_))
    have hR:OwR 3 (w.heap.size+1) w4 s' A1 k1 c1 A2 k2 c2 (ofFrac x D):=by
      rw[hfin.out]
      exact OwR.two' (r:=raw y E) (hO1.mono (show w.heap.size+1≤W.drew.heap.size from hr.lt)).2 hO2 hb4 hz hO1.1
    go_wp2_with fail
    exact bodyPost_ret (v:=.agg #[.bool s',.slice A1 k1 c1,.slice A2 k2 c2]) (by simp[results,Tryz.results166,go_sem,x0,x1,x2]) rfl ⟨_,_,_,_,_,_,_,rfl,(((hR.far (by simp) _).far (by simp) _).far (by simp) _).mono (by omega),slc⟩
  · skip
    have hmx:¬ x < -x:=by omega
    have hu:Hid (x=((x.natAbs:Nat):Int)):=by unfold Hid;omega
    go_enter Tryz.func166,Tryz.ntmps166
    go_wp2_with fail
    refine(gcd_int _ x.natAbs D hu.out (by omega) (by omega)).mono ?_
    rintro e w5 ⟨rfl,q5,rfl⟩
    rw[hgd.out]
    go_wp2_with fail
    refine wp_gen (fun W=> Bl w W∧Wk 3 54 w.heap.size W) ⟨slc,bts⟩ ?_
    rintro W ⟨hbW,hr⟩
    go_region_held3 (fun w' =>(w'.cell? ⟨w.heap.size,0,none⟩=some (cellD w' (w.heap.size) 0)∧w'.cell? ⟨w.heap.size,1,none⟩=some (cellD w' (w.heap.size) 1)∧w'.cell? ⟨w.heap.size,2,none⟩=some (cellD w' (w.heap.size) 2))∧w'.frozen? ⟨w.heap.size,0,none⟩=false∧w'.frozen? ⟨w.heap.size,1,none⟩=false∧w'.frozen? ⟨w.heap.size,2,none⟩=false) (first | exact(Wk.out3 (T:=54) bts)) (first |(go_at_call 137;with_reducible refine(BigIntOf_any _ y hy1 hy2).mono ?_;rintro e w3 ⟨s',A1,k1,c1,rfl,hO1,hb3⟩) |(go_at_call 170;with_reducible refine(natOf_int _ E hE4.out hE2).mono ?_;rintro e w4 ⟨A2,k2,c2,rfl,hO2,hb4⟩))
    have hrl:Wk 3 54 (w.heap.size) w4:=bts
    have hbl:Bl w w4:=slc
    obtain⟨v0,x0⟩:=hrl.val_ (i:=0) (by omega)
    obtain⟨v1,x1⟩:=hrl.val_ (i:=1) (by omega)
    obtain⟨v2,x2⟩:=hrl.val_ (i:=2) (by omega)
    have hg:=hrl.lt
    have hz:w.heap.size+1≤w3.heap.size:=Nat.le_trans hr.lt (show W.heap.size≤w3.heap.size from (Bl.size hb3:W.drew.heap.size≤_))
    have hR:OwR 3 (w.heap.size+1) w4 s' A1 k1 c1 A2 k2 c2 (ofFrac x D):=by
      rw[hfin.out]
      exact OwR.two' (r:=raw y E) (hO1.mono (show w.heap.size+1≤W.drew.heap.size from hr.lt)).2 hO2 hb4 hz hO1.1
    go_wp2_with fail
    exact bodyPost_ret (v:=.agg #[.bool s',.slice A1 k1 c1,.slice A2 k2 c2]) (by simp[results,Tryz.results166,go_sem,x0,x1,x2]) rfl ⟨_,_,_,_,_,_,_,rfl,(((hR.far (by simp) _).far (by simp) _).far (by simp) _).mono (by omega),slc⟩



theorem OwR.zero (T:TypeId) (b0:Nat) (w:World):OwR T b0 w false none 0 0 none 0 0 zR :=
  ⟨[],⟨rfl,[],[],⟨RdI.nil _ _ _,.inl ⟨rfl,rfl⟩⟩,⟨RdI.nil _ _ _,.inl ⟨rfl,rfl⟩⟩,rfl⟩,Fp.nil _ _⟩
theorem ofFrac_one {x:Int}{D:Nat}(h:Nat.gcd x.natAbs D=1):ofFrac x D=if (dig x.natAbs).length≤24∧(dig D).length≤24 then raw x D else zR:=by
  unfold ofFrac
  rw[h]
  simp only[Nat.div_one,Int.natCast_one,Int.ediv_one]
set_option maxRecDepth 100000 in
set_option maxHeartbeats 4000000 in
theorem reduced_one (w:World) {b0:Nat}{s:Bool}{A:Option Addr}{n c:Nat}{x:Int}{B:Option Addr}{m d:Nat}{D:Nat}(h:OwR 3 b0 w s A n c B m d (raw x D)) (_hb0:b0≤w.heap.size) (hn:n≤1048576) (hm:m≤1048576) (hg1:Nat.gcd x.natAbs D=1) :
    Calls Tryz.prog 167 #[.agg #[.bool s,.slice A n c],.slice B m d] w fun e w'=> ∃ s' A' n' c' B' m' d',e=.returned (.agg #[.bool s',.slice A' n' c',.slice B' m' d'])∧OwR 3 b0 w' s' A' n' c' B' m' d' (ofFrac x D)∧Bl w w':=by
  have hfin:=ofFrac_one hg1
  have l1:(dig x.natAbs).length=n:=h.rd.mag.lenN
  have l2:(dig D).length=m:=h.rd.den.lenN
  rw[l1,l2] at hfin
  clear l1 l2
  have hgd:=Lib.hid hg1
  clear hg1
  by_cases hn24:n≤24
  · have hi:decide ((24:Int) < (n:Int))=false:=by simp;omega
    by_cases hm24:m≤24
    · have hj:decide ((24:Int) < (m:Int))=false:=by simp;omega
      rw[if_pos ⟨hn24,hm24⟩] at hfin
      have hfin:=Lib.hid hfin;rename_i h_;clear h_
      clear hn24 hm24
      go_enter Tryz.func167,Tryz.ntmps167
      go_wp2_with fail
      refine calls_gen (fun W=> Bl w W∧Blk W (w.heap.size) 52 #[.bool s,.slice A n c]∧Wk 3 54 (w.heap.size+1) W) ⟨slc,bts,bts⟩ ?_
      rintro W ⟨hbW,hx,hr⟩
      refine(natGcd_any _ (h.rd.mag.bl hbW) (h.rd.den.bl hbW) hn hm).mono ?_
      rintro e w2 ⟨A1,k1,c1,rfl,hG,hb2⟩
      rw[hgd.out] at hG
      have hG:=hG.mono (show w.heap.size+1+1≤W.heap.size from hr.lt)
      have hrl:Wk 3 54 (w.heap.size+1) w2:=hr.bl hb2
      have hx:=hx.bl hb2
      have hb2:Bl w w2:=slc
      clear hbW hr
      go_wp2_with fail
      refine(isOne_yes _ hG.rd).mono ?_
      rintro e w3 ⟨rfl,q3,rfl⟩
      obtain⟨v0,x0⟩:=hrl.val_ (i:=0) (by omega)
      obtain⟨v1,x1⟩:=hrl.val_ (i:=1) (by omega)
      obtain⟨v2,x2⟩:=hrl.val_ (i:=2) (by omega)
      have hg:=hrl.lt
      obtain⟨cs4,hB4,hc4⟩:=hrl
      have hf0:=hB4.frozen 0
      have hf1:=hB4.frozen 1
      have hf2:=hB4.frozen 2
      obtain⟨j0,j1⟩:=bx2 hx
      go_wp2_with fail
      exact bodyPost_ret (v:=.agg #[.bool s,.slice A n c,.slice B m d]) (by simp[results,Tryz.results167,go_sem,x0,x1,x2]) rfl ⟨_,_,_,_,_,_,_,rfl,by rw[hfin.out];exact h.bl slc,slc⟩
    · have hj:decide ((24:Int) < (m:Int))=true:=by simp;omega
      rw[if_neg (fun hh=> hm24 hh.2)] at hfin
      have hfin:=Lib.hid hfin;rename_i h_;clear h_
      clear hn24 hm24
      go_enter Tryz.func167,Tryz.ntmps167
      go_wp2_with fail
      refine calls_gen (fun W=> Bl w W∧Blk W (w.heap.size) 52 #[.bool s,.slice A n c]∧Wk 3 54 (w.heap.size+1) W) ⟨slc,bts,bts⟩ ?_
      rintro W ⟨hbW,hx,hr⟩
      refine(natGcd_any _ (h.rd.mag.bl hbW) (h.rd.den.bl hbW) hn hm).mono ?_
      rintro e w2 ⟨A1,k1,c1,rfl,hG,hb2⟩
      rw[hgd.out] at hG
      have hG:=hG.mono (show w.heap.size+1+1≤W.heap.size from hr.lt)
      have hrl:Wk 3 54 (w.heap.size+1) w2:=hr.bl hb2
      have hx:=hx.bl hb2
      have hb2:Bl w w2:=slc
      clear hbW hr
      go_wp2_with fail
      refine(isOne_yes _ hG.rd).mono ?_
      rintro e w3 ⟨rfl,q3,rfl⟩
      obtain⟨v0,x0⟩:=hrl.val_ (i:=0) (by omega)
      obtain⟨v1,x1⟩:=hrl.val_ (i:=1) (by omega)
      obtain⟨v2,x2⟩:=hrl.val_ (i:=2) (by omega)
      have hg:=hrl.lt
      obtain⟨cs4,hB4,hc4⟩:=hrl
      have hf0:=hB4.frozen 0
      have hf1:=hB4.frozen 1
      have hf2:=hB4.frozen 2
      obtain⟨j0,j1⟩:=bx2 hx
      go_wp2_with fail
      exact bodyPost_ret (v:=.agg #[.bool false,.slice none 0 0,.slice none 0 0]) (by simp[results,Tryz.results167,go_sem,x0,x1,x2]) rfl ⟨_,_,_,_,_,_,_,rfl,by rw[hfin.out];exact OwR.zero _ _ _,slc⟩
  · have hi:decide ((24:Int) < (n:Int))=true:=by simp;omega
    rw[if_neg (fun hh=> hn24 hh.1)] at hfin
    have hfin:=Lib.hid hfin;rename_i h_;clear h_
    clear hn24
    go_enter Tryz.func167,Tryz.ntmps167
    go_wp2_with fail
    refine calls_gen (fun W=> Bl w W∧Blk W (w.heap.size) 52 #[.bool s,.slice A n c]∧Wk 3 54 (w.heap.size+1) W) ⟨slc,bts,bts⟩ ?_
    rintro W ⟨hbW,hx,hr⟩
    refine(natGcd_any _ (h.rd.mag.bl hbW) (h.rd.den.bl hbW) hn hm).mono ?_
    rintro e w2 ⟨A1,k1,c1,rfl,hG,hb2⟩
    rw[hgd.out] at hG
    have hG:=hG.mono (show w.heap.size+1+1≤W.heap.size from hr.lt)
    have hrl:Wk 3 54 (w.heap.size+1) w2:=hr.bl hb2
    have hx:=hx.bl hb2
    have hb2:Bl w w2:=slc
    clear hbW hr
    go_wp2_with fail
    refine(isOne_yes _ hG.rd).mono ?_
    rintro e w3 ⟨rfl,q3,rfl⟩
    obtain⟨v0,x0⟩:=hrl.val_ (i:=0) (by omega)
    obtain⟨v1,x1⟩:=hrl.val_ (i:=1) (by omega)
    obtain⟨v2,x2⟩:=hrl.val_ (i:=2) (by omega)
    have hg:=hrl.lt
    obtain⟨cs4,hB4,hc4⟩:=hrl
    have hf0:=hB4.frozen 0
    have hf1:=hB4.frozen 1
    have hf2:=hB4.frozen 2
    obtain⟨j0,j1⟩:=bx2 hx
    go_wp2_with fail
    exact bodyPost_ret (v:=.agg #[.bool false,.slice none 0 0,.slice none 0 0]) (by simp[results,Tryz.results167,go_sem,x0,x1,x2]) rfl ⟨_,_,_,_,_,_,_,rfl,by rw[hfin.out];exact OwR.zero _ _ _,slc⟩

set_option maxRecDepth 100000 in
set_option maxHeartbeats 4000000 in
theorem reduced_more (w:World) {b0:Nat}{s:Bool}{A:Option Addr}{n c:Nat}{x:Int}{B:Option Addr}{m d:Nat}{D:Nat}(h:OwR 3 b0 w s A n c B m d (raw x D)) (hb0:b0≤w.heap.size) (hn:n≤1048576) (hm:m≤1048576) (hD:0 < D) (hg1:Nat.gcd x.natAbs D≠1) :
    Calls Tryz.prog 167 #[.agg #[.bool s,.slice A n c],.slice B m d] w fun e w'=> ∃ s' A' n' c' B' m' d',e=.returned (.agg #[.bool s',.slice A' n' c',.slice B' m' d'])∧OwR 3 b0 w' s' A' n' c' B' m' d' (ofFrac x D)∧Bl w w':=by
  have hg0:=gcd_pos_den (n:=x.natAbs) hD
  have hgx:Nat.gcd x.natAbs D ∣ x.natAbs:=Nat.gcd_dvd_left _ _
  have hyn:=natAbs_ediv_gcd x _ hgx
  have hys:=ediv_neg_iff x _ hg0
  have hfin:ofFrac x D=if (dig (x.natAbs / Nat.gcd x.natAbs D)).length≤24∧(dig (D / Nat.gcd x.natAbs D)).length≤24 then raw (x / (Nat.gcd x.natAbs D:Int)) (D / Nat.gcd x.natAbs D) else zR:=rfl
  generalize hgd:Nat.gcd x.natAbs D=g at *
  have hs:=Lib.hid h.rd.neg
  have hraw:Hid (raw (x / (g:Int)) (D / g)=⟨s,ints (dig (x.natAbs / g)),ints (dig (D / g))⟩):=by
    unfold Hid raw
    rw[hyn,hs.out]
    simp only[raw]
    congr 1
    exact decide_eq_decide.2 hys
  have hgd:=Lib.hid hgd;rename_i h_;clear h_
  have hg1:=Lib.hid hg1;rename_i h_;clear h_
  have hfin:=Lib.hid hfin;rename_i h_;clear h_
  clear hyn hys hgx
  go_enter Tryz.func167,Tryz.ntmps167
  go_wp2_with fail
  refine calls_gen (fun W=> Bl w W∧Blk W (w.heap.size) 52 #[.bool s,.slice A n c]∧Wk 3 54 (w.heap.size+1) W) ⟨slc,bts,bts⟩ ?_
  rintro W ⟨hbW,hx,hr⟩
  refine(natGcd_any _ (h.rd.mag.bl hbW) (h.rd.den.bl hbW) hn hm).mono ?_
  rintro e w2 ⟨A1,k1,c1,rfl,hG,hb2⟩
  rw[hgd.out] at hG
  have hG:=hG.mono (show w.heap.size+1+1≤W.heap.size from hr.lt)
  have hrl:Wk 3 54 (w.heap.size+1) w2:=hr.bl hb2
  have hx:=hx.bl hb2
  have hb2:Bl w w2:=slc
  clear hbW hr
  go_wp2_with fail
  refine(isOne_no _ hG.rd hg1.out).mono ?_
  rintro e w3 ⟨rfl,q3,rfl⟩
  obtain⟨j0,j1⟩:=bx2 hx
  have hx3:=hx.drewN q3
  have hrl:=hrl.drewN q3
  have hG:=hG.q ⟨q3,rfl⟩
  have hb3:Bl w (w2.drewN q3):=slc
  generalize w2.drewN q3=w3 at *
  have hgl:k1≤1048576:=by
    have h1:=hG.rd.lenN
    have h2:=dig_len_mono (Nat.le_of_dvd hD (hgd.out ▸ Nat.gcd_dvd_right x.natAbs D))
    have h3:(dig D).length=m:=h.rd.den.lenN
    omega
  have hz3:w.heap.size+1+1≤w3.heap.size:=hrl.lt
  clear hb2 hx j0 j1
  obtain⟨j0,j1⟩:=bx2 hx3
  have hfx:=hx3.frozen 1
  go_wp2_with fail
  refine(natDiv_any _ (h.rd.mag.bl hb3) hG.rd hn hgl hg0).mono ?_
  rintro e w4 ⟨A2,k2,c2,A3,k3,c3,rfl,hQ,_,hb4⟩
  have hx4:=hx3.bl hb4
  have hr4:=hrl.bl hb4
  have hb5:=hb3.next hb4
  have hQ:=(hQ.mono hz3).far (p:=⟨w.heap.size,1,none⟩) (by simp;omega) (.slice A2 k2 c2)
  have hG5:=(hG.bl hb4).far (p:=⟨w.heap.size,1,none⟩) (by simp;omega) (.slice A2 k2 c2)
  have hx5:Blk (w4.setCell ⟨w.heap.size,1,none⟩ (.slice A2 k2 c2)) w.heap.size 52 #[.bool s,.slice A2 k2 c2]:=hx4.set_ 1 _
  have hr5:=hr4.far (p:=⟨w.heap.size,1,none⟩) (by simp) (.slice A2 k2 c2)
  have hb6:Bl w (w4.setCell ⟨w.heap.size,1,none⟩ (.slice A2 k2 c2)):=hb5.set (by simp) _
  clear hx3 hrl hb3 hG hb4 hr4 hb5 j0 j1 hfx
  obtain⟨j0,j1⟩:=bx2 hx4
  have hfx:=hx4.frozen 1
  go_wp2_with fail
  have hz6:w.heap.size+1+1≤(w4.setCell ⟨w.heap.size,1,none⟩ (.slice A2 k2 c2)).heap.size:=hr5.lt
  clear hx4 j0 j1 hfx
  generalize w4.setCell ⟨w.heap.size,1,none⟩ (.slice A2 k2 c2)=w5 at *
  refine(natDiv_any _ (h.rd.den.bl hb6) hG5.rd hm hgl hg0).mono ?_
  rintro e w6 ⟨A4,k4,c4,A5,k5,c5,rfl,hQ2,_,hb7⟩
  have hR:OwR 3 (w.heap.size+1+1) w6 s A2 k2 c2 A4 k4 c4 (raw (x / (g:Int)) (D / g)):=by
    rw[hraw.out]
    exact OwR.two hQ hQ2 hb7 hz6
  have l1:(dig (x.natAbs / g)).length=k2:=hQ.rd.lenN
  have l2:(dig (D / g)).length=k4:=hQ2.rd.lenN
  have hcapQ:=hQ.rd.small
  have hcapQ2:=hQ2.rd.small
  have hfin:=hfin.out
  rw[l1,l2] at hfin
  have hx6:=hx5.bl hb7
  have hrl:=hr5.bl hb7
  have hb8:=hb6.next hb7
  clear l1 l2 hQ hQ2 hG5 hx5 hr5 hb6 hb7
  have hx:=hx6
  obtain⟨v0,x0⟩:=hrl.val_ (i:=0) (by omega)
  obtain⟨v1,x1⟩:=hrl.val_ (i:=1) (by omega)
  obtain⟨v2,x2⟩:=hrl.val_ (i:=2) (by omega)
  have hg:=hrl.lt
  obtain⟨cs4,hB4,hc4⟩:=hrl
  have hf0:=hB4.frozen 0
  have hf1:=hB4.frozen 1
  have hf2:=hB4.frozen 2
  obtain⟨j0,j1⟩:=bx2 hx
  by_cases hn24:k2≤24
  · have hi:decide ((24:Int) < (k2:Int))=false:=by simp;omega
    by_cases hm24:k4≤24
    · have hj:decide ((24:Int) < (k4:Int))=false:=by simp;omega
      rw[if_pos ⟨hn24,hm24⟩] at hfin
      have hfin:=Lib.hid hfin;rename_i h_;clear h_
      clear hn24 hm24
      go_wp2_with fail
      exact bodyPost_ret (v:=.agg #[.bool s,.slice A2 k2 c2,.slice A4 k4 c4]) (by simp[results,Tryz.results167,go_sem,x0,x1,x2]) rfl ⟨_,_,_,_,_,_,_,rfl,by rw[hfin.out];exact(((hR.far (by simp) _).far (by simp) _).far (by simp) _).mono (by omega),slc⟩
    · have hj:decide ((24:Int) < (k4:Int))=true:=by simp;omega
      rw[if_neg (fun hh=> hm24 hh.2)] at hfin
      have hfin:=Lib.hid hfin;rename_i h_;clear h_
      clear hn24 hm24
      go_wp2_with fail
      exact bodyPost_ret (v:=.agg #[.bool false,.slice none 0 0,.slice none 0 0]) (by simp[results,Tryz.results167,go_sem,x0,x1,x2]) rfl ⟨_,_,_,_,_,_,_,rfl,by rw[hfin.out];exact OwR.zero _ _ _,slc⟩
  · have hi:decide ((24:Int) < (k2:Int))=true:=by simp;omega
    rw[if_neg (fun hh=> hn24 hh.1)] at hfin
    have hfin:=Lib.hid hfin;rename_i h_;clear h_
    clear hn24
    go_wp2_with fail
    exact bodyPost_ret (v:=.agg #[.bool false,.slice none 0 0,.slice none 0 0]) (by simp[results,Tryz.results167,go_sem,x0,x1,x2]) rfl ⟨_,_,_,_,_,_,_,rfl,by rw[hfin.out];exact OwR.zero _ _ _,slc⟩
theorem reduced_any (w:World) {b0:Nat}{s:Bool}{A:Option Addr}{n c:Nat}{x:Int}{B:Option Addr}{m d:Nat}{D:Nat}(h:OwR 3 b0 w s A n c B m d (raw x D)) (hb0:b0≤w.heap.size) (hn:n≤1048576) (hm:m≤1048576) (hD:0 < D) :
    Calls Tryz.prog 167 #[.agg #[.bool s,.slice A n c],.slice B m d] w fun e w'=> ∃ s' A' n' c' B' m' d',e=.returned (.agg #[.bool s',.slice A' n' c',.slice B' m' d'])∧OwR 3 b0 w' s' A' n' c' B' m' d' (ofFrac x D)∧Bl w w':=by
  by_cases hg:Nat.gcd x.natAbs D=1
  · exact reduced_one w h hb0 hn hm hg
  · exact reduced_more w h hb0 hn hm hD hg
end

end Go.Proofs.YtmkcacgmnnlddaaGreat
