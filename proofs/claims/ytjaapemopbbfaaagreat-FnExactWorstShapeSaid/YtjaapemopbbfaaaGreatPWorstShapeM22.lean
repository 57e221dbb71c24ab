/- Lemmas. -/
import Derived.Test.YtjaapemopbbfaaaGreatRows
import Derived.Test.YtjaapemopbbfaaaGreatPWorstShapeM21
import Derived.Test.YtjaapemopbbfaaaGreatPWorstShapeM08
import Derived.Test.YtjaapemopbbfaaaGreatPWorstShapeM02
namespace Go.Proofs.YtjaapemopbbfaaaGreat
section
open Go.RowKit

def mkR (k:Int) (r:RatD):RatD:=⟨k % 3 == 0,marks (k+1) r.mag.length,marks (k+1+(r.mag.length:Int)) r.den.length⟩
def mkP (k:Int) (p:PtD):PtD:=⟨mkR k p.x,mkR (k+1+(szR p.x:Int)) p.y⟩
def adv (p:PtD):Nat:=2+szP p
def mkAt (l:List PtD) (k:Int) (i:Nat):PtD:=mkP (k+(sumTo adv l i:Int)) (pix l i)
def mkL (l:List PtD) (k:Int):List PtD:=(List.range l.length).map (mkAt l k)
theorem pix_mkL (l:List PtD) (k:Int) {i:Nat}(h:i < l.length):pix (mkL l k) i=mkAt l k i:=by simp[pix,mkL,h]

theorem nodup_pix {fs:List (List Nat)}(h:fs.flatten.Nodup) {k:Nat}(hk:k < fs.length):(pix fs k).Nodup:=by
  have e:pix fs k=fs[k]:=by simp[pix,hk]
  rw[e]
  exact(List.pairwise_flatten.1 h).1 _ (List.getElem_mem hk)
theorem disj_pix {fs:List (List Nat)}(h:fs.flatten.Nodup) {j k:Nat}(hj:j < fs.length) (hk:k < fs.length) (hne:j≠k):∀ b ∈ pix fs j,b ∉ pix fs k:=by
  have ej:pix fs j=fs[j]:=by simp[pix,hj]
  have ek:pix fs k=fs[k]:=by simp[pix,hk]
  rw[ej,ek]
  intro b hb hb'
  have hp:=List.pairwise_iff_getElem.1 (List.pairwise_flatten.1 h).2
  rcases Nat.lt_or_ge j k with hlt | hge
  · exact hp j k hj hk hlt b hb b hb' rfl
  · exact hp k j hk hj (by omega) b hb' b hb rfl
theorem nodup4 {a b c d:List Nat}(h:((a ++ b) ++ (c ++ d)).Nodup):(∀ x ∈ b,x ∉ a)∧(∀ x ∈ c,x ∉ a)∧(∀ x ∈ d,x ∉ a)∧(∀ x ∈ c,x ∉ b)∧(∀ x ∈ d,x ∉ b)∧(∀ x ∈ d,x ∉ c)∧(∀ x ∈ a,x ∉ b)∧(∀ x ∈ a,x ∉ c)∧(∀ x ∈ a,x ∉ d)∧(∀ x ∈ b,x ∉ c)∧(∀ x ∈ b,x ∉ d)∧(∀ x ∈ c,x ∉ d):=by
  obtain⟨h1,h2,h3⟩:=List.nodup_append.1 h
  obtain⟨_,_,h4⟩:=List.nodup_append.1 h1
  obtain⟨_,_,h5⟩:=List.nodup_append.1 h2
  refine⟨fun x m m'=> h4 x m' x m rfl,fun x m m'=> h3 x (by simp[m']) x (by simp[m]) rfl,fun x m m'=> h3 x (by simp[m']) x (by simp[m]) rfl,fun x m m'=> h3 x (by simp[m']) x (by simp[m]) rfl,fun x m m'=> h3 x (by simp[m']) x (by simp[m]) rfl,fun x m m'=> h5 x m' x m rfl,
    fun x m m'=> h4 x m x m' rfl,fun x m m'=> h3 x (by simp[m]) x (by simp[m']) rfl,fun x m m'=> h3 x (by simp[m]) x (by simp[m']) rfl,fun x m m'=> h3 x (by simp[m]) x (by simp[m']) rfl,fun x m m'=> h3 x (by simp[m]) x (by simp[m']) rfl,fun x m m'=> h5 x m x m' rfl⟩

theorem FtI.lt {T:TypeId}{w:World}{A:Option Addr}{n c:Nat}{l:List Int}{bs:List Nat}(h:FtI T w A n c l bs):∀ b ∈ bs,b < w.heap.size:=by
  intro b hm
  rcases h.2 with ⟨_,e⟩ |⟨g,xs,_,_,hh,_,e⟩
  · rw[e] at hm;cases hm
  · rw[e] at hm;simp at hm;subst hm;exact heap_lt hh
theorem FtR.lt {T:TypeId}{w:World}{s:Bool}{A:Option Addr}{n c:Nat}{B:Option Addr}{m d:Nat}{r:RatD}{bs:List Nat}(h:FtR T w s A n c B m d r bs):∀ b ∈ bs,b < w.heap.size:=by
  obtain⟨_,b1,b2,h1,h2,rfl⟩:=h
  intro b hb
  rcases List.mem_append.1 hb with hb | hb
  · exact h1.lt b hb
  · exact h2.lt b hb
theorem PtIn.lt {T:TypeId}{w:World}{cs:Array Value}{i:Nat}{p:PtD}{bs:List Nat}(h:PtIn T w cs i p bs):∀ b ∈ bs,b < w.heap.size:=by
  obtain⟨s,A,n,c,B,m,d,t,C,j,e,D,k,f,b1,b2,_,h1,h2,rfl⟩:=h
  intro b hb
  rcases List.mem_append.1 hb with hb | hb
  · exact h1.lt b hb
  · exact h2.lt b hb
theorem sumTo_adv (l:List PtD) (k:Nat):sumTo adv l k=2 * k+sumTo szP l k:=by
  induction k with
  | zero=> rfl
  | succ k ih=> simp only[sumTo,ih,adv];omega
theorem mkP_xm {ks:Int}{p:PtD}{n:Nat}(h:p.x.mag.length=n):(mkP ks p).x.mag=marks (ks+1) n:=by subst h;rfl
theorem mkP_xd {ks:Int}{p:PtD}{n m:Nat}(h:p.x.mag.length=n) (h':p.x.den.length=m):(mkP ks p).x.den=marks (ks+1+(n:Int)) m:=by subst h;subst h';rfl
theorem mkP_y {ks z:Int}{p:PtD}{n m:Nat}(h:p.x.mag.length=n) (h':p.x.den.length=m) (hz:z=ks+1+(n:Int)+(m:Int)):(mkP ks p).y=mkR z p.y:=by
  subst h;subst h';subst hz
  show mkR (ks+1+(szR p.x:Int)) p.y=_
  congr 1
  unfold szR;omega
theorem mkR_m {z:Int}{r:RatD}{n:Nat}(h:r.mag.length=n):(mkR z r).mag=marks (z+1) n:=by subst h;rfl
theorem mkR_d {z:Int}{r:RatD}{n m:Nat}(h:r.mag.length=n) (h':r.den.length=m):(mkR z r).den=marks (z+1+(n:Int)) m:=by subst h;subst h';rfl

set_option maxHeartbeats 4000000 in
theorem markPointS_big {T TP:TypeId}(w:World) {g n c:Nat}{l:List PtD}{cs:Array Value}{fs:List (List Nat)}{k0:Int}(hB:Blk w g TP cs) (hcs:n * 6≤cs.size) (hP:PtsIn T w cs l n fs) (hl:l.length=n)
    (hg:g ∉ fs.flatten) (hnd:fs.flatten.Nodup) (hn:n≤1048576) (hsz:szL szP l≤4194304) (hpz1:∀ k,k < l.length→szP (pix l k)≤1048576) (h0:0≤k0) (h1:k0≤1073741824) :
    Calls Tryz.prog 29 #[.slice (some ⟨g,0,none⟩) n c,.int .i64 k0] w fun e w'=> e=.returned (.int .i64 (k0+(sumTo adv l n:Int)))∧∃ cs',Blk w' g TP cs'∧cs'.size=cs.size∧PtsIn T w' cs' (mkL l k0) n fs∧Ob (g :: fs.flatten) w w':=by
  have hl:=Lib.hid hl;rename_i h_;clear h_
  go_enter Tryz.func29,Tryz.ntmps29
  go_wp2_with fail
  go_loopw [1,5] (fun v i wr=> ∃ (k:Nat) (cs':Array Value),k≤n∧i=.int .i64 (k:Int)∧v=.int .i64 (k0+(sumTo adv l k:Int))∧Blk wr g TP cs'∧cs'.size=cs.size∧(∀ j,j < n→PtIn T wr cs' (j * 6) (if j < k then mkAt l k0 j else pix l j) (pix fs j))∧Ob (g :: fs.flatten) w wr) (fun _ i _=> n - (intOf i).toNat)
  case atStart=> exact⟨0,cs,Nat.zero_le _,rfl,by simp[sumTo],hB,rfl,fun j hj=> by simpa using hP.2 j hj,Ob.refl _ _⟩
  case round =>
    clear hB
    obtain⟨k,cs',hk,rfl,rfl,hB,hs,hM,hO⟩:=hrel
    have hs:=Lib.hid hs;rename_i h_;clear h_
    by_cases hkn:k < n
    · have hki:(k:Int) < (n:Int):=by omega
      have hPk:=hM k hkn
      rw[if_neg (by omega)] at hPk
      have hMk:Hid (k0+(sumTo adv l (k+1):Int)=k0+(sumTo adv l k:Int)+(adv (pix l k):Int)):=by unfold Hid;simp only[sumTo];omega
      have hat:Hid (mkAt l k0 k=mkP (k0+(sumTo adv l k:Int)) (pix l k)):=rfl
      have hks:(0:Int)≤k0+(sumTo adv l k:Int):=by omega
      have hkb:k0+(sumTo adv l k:Int)≤1099511627776 - 100000000:=by have a1:=sumTo_adv l k;have a2:=sumTo_le szP l hk;have a3:=hl.out;unfold szL at hsz;rw[a3] at hsz;omega
      generalize k0+(sumTo adv l k:Int)=ks at *
      have hpz:=hpz1 k (by rw[hl.out];exact hkn)
      generalize pix l k=p at *
      obtain⟨s,A,n1,c1,B,m1,d1,t,C,n2,c2,D,m2,d2,b1,b2,⟨x0,x1,x2,x3,x4,x5⟩,⟨e1,b11,b12,hX1,hX2,r1⟩,⟨e2,b21,b22,hY1,hY2,r2⟩,hfs⟩:=hPk
      have y0:=(hB.cell (k * 6)).trans x0
      have y1:=(hB.cell (k * 6+1)).trans x1
      have y2:=(hB.cell (k * 6+2)).trans x2
      have y3:=(hB.cell (k * 6+3)).trans x3
      have y4:=(hB.cell (k * 6+4)).trans x4
      have y5:=(hB.cell (k * 6+5)).trans x5
      have f0:=hB.frozen (k * 6)
      have hs:=hs
      have hfl:=hP.1
      have hnp:=nodup_pix hnd (k:=k) (by rw[hfl];exact hkn)
      have hgk:∀ b ∈ pix fs k,b≠g:=fun b hb e=> hg (by rw[← e];exact mem_flatten_pix hb)
      have hsub:∀ b ∈ pix fs k,b ∈ fs.flatten:=fun b hb=> mem_flatten_pix hb
      have hdj:∀ j,j < n→j≠k→∀ b ∈ pix fs j,b ∉ pix fs k:=fun j hj hne=> disj_pix hnd (by rw[hfl];exact hj) (by rw[hfl];exact hkn) hne
      rw[hfs,r1,r2] at hnp hgk hsub
      obtain⟨q1,q2,q3,q4,q5,q6,q7,q8,q9,q10,q11,q12⟩:=nodup4 hnp
      have gb1:∀ b ∈ b11,b ∉ [g]:=fun b hb=> by have:=hgk b (by simp[hb]);simpa using this
      have gb2:∀ b ∈ b12,b ∉ [g]:=fun b hb=> by have:=hgk b (by simp[hb]);simpa using this
      have gb3:∀ b ∈ b21,b ∉ [g]:=fun b hb=> by have:=hgk b (by simp[hb]);simpa using this
      have gb4:∀ b ∈ b22,b ∉ [g]:=fun b hb=> by have:=hgk b (by simp[hb]);simpa using this
      have gg1:g ∉ b11:=fun hb=> hgk g (by simp[hb]) rfl
      have gg2:g ∉ b12:=fun hb=> hgk g (by simp[hb]) rfl
      have gg3:g ∉ b21:=fun hb=> hgk g (by simp[hb]) rfl
      have gg4:g ∉ b22:=fun hb=> hgk g (by simp[hb]) rfl
      have lX1:=Lib.hid hX1.1.len
      have lX2:=Lib.hid hX2.1.len
      have lY1:=Lib.hid hY1.1.len
      have lY2:=Lib.hid hY2.1.len
      have hb1:n1+m1+n2+m2≤1048576:=by have a1:=lX1.out;have a2:=lX2.out;have a3:=lY1.out;have a4:=lY2.out;simp only[szP,szR] at hpz;omega
      have hM:=Lib.hid hM;rename_i h_;clear h_
      have hdj:=Lib.hid hdj;rename_i h_;clear h_
      have hMk:=Lib.hid hMk.out;rename_i h_;clear h_
      have hnp:=Lib.hid hnp;rename_i h_;clear h_
      have hgk:=Lib.hid hgk;rename_i h_;clear h_
      have hsub:=Lib.hid hsub;rename_i h_;clear h_
      have hfs:=Lib.hid hfs;rename_i h_;clear h_
      have r1:=Lib.hid r1;rename_i h_;clear h_
      have r2:=Lib.hid r2;rename_i h_;clear h_
      have e1:=Lib.hid e1;rename_i h_;clear h_
      have e2:=Lib.hid e2;rename_i h_;clear h_
      have hfl:=Lib.hid hfl;rename_i h_;clear h_
      go_wp2_with fail
      have o1:Ob [g] wr (wr.setCell ⟨g,k * 6,none⟩ (.bool (ks % 3 == 0))):=(Ob.refl _ _).set (by simp) _ _
      have hB1:=hB.set_ (k * 6) (.bool (ks % 3 == 0))
      refine(markIntS_any _ (hX1.ob o1 gb1) (by omega) (by omega) (by omega)).mono ?_
      rintro e w2 ⟨rfl,hX1,p1⟩
      have hB2:=hB1.ob p1 gg1
      have hX2:=(hX2.ob o1 gb2).ob p1 q1
      have hY1:=(hY1.ob o1 gb3).ob p1 q2
      have hY2:=(hY2.ob o1 gb4).ob p1 q3
      have z2:=(hB2.cell (k * 6+2)).trans ((Array.getElem?_setIfInBounds_ne (by omega)).trans x2)
      go_wp2_with fail
      refine(markIntS_any _ hX2 (by omega) (by omega) (by omega)).mono ?_
      rintro e w3 ⟨rfl,hX2,p2⟩
      have hB3:=hB2.ob p2 gg2
      have hX1:=hX1.ob p2 q7
      have hY1:=hY1.ob p2 q4
      have hY2:=hY2.ob p2 q5
      have z3:=(hB3.cell (k * 6+3)).trans ((Array.getElem?_setIfInBounds_ne (by omega)).trans x3)
      have z4:=(hB3.cell (k * 6+4)).trans ((Array.getElem?_setIfInBounds_ne (by omega)).trans x4)
      have f3:=hB3.frozen (k * 6+3)
      go_wp2_with fail
      generalize hks3:ks+1+(n1:Int)+(m1:Int)=ks3 at *
      have hks3:=Lib.hid hks3;rename_i h_;clear h_
      have o3:Ob [g] w3 (w3.setCell ⟨g,k * 6+3,none⟩ (.bool (ks3 % 3 == 0))):=(Ob.refl _ _).set (by simp) _ _
      have hB4:=hB3.set_ (k * 6+3) (.bool (ks3 % 3 == 0))
      have hX1:=hX1.ob o3 gb1
      have hX2:=hX2.ob o3 gb2
      refine(markIntS_any _ (hY1.ob o3 gb3) (by omega) (by have:=hks3.out;omega) (by have:=hks3.out;omega)).mono ?_
      rintro e w4 ⟨rfl,hY1,p3⟩
      have hB5:=hB4.ob p3 gg3
      have hX1:=hX1.ob p3 q8
      have hX2:=hX2.ob p3 q10
      have hY2:=(hY2.ob o3 gb4).ob p3 q6
      have z5:=(hB5.cell (k * 6+5)).trans ((Array.getElem?_setIfInBounds_ne (by omega)).trans ((Array.getElem?_setIfInBounds_ne (by omega)).trans x5))
      have hk3b:ks3≤1099511627776 - 90000000:=by have:=hks3.out;omega
      have hk30:0≤ks3:=by have:=hks3.out;omega
      go_wp2_with fail
      refine(markIntS_any _ hY2 (by omega) (by omega) (by omega)).mono ?_
      rintro e w5 ⟨rfl,hY2,p4⟩
      have hB6:=hB5.ob p4 gg4
      have hX1:=hX1.ob p4 q9
      have hX2:=hX2.ob p4 q11
      have hY1:=hY1.ob p4 q12
      have oall:Ob (g :: pix fs k) wr w5:=by
        rw[hfs.out,r1.out,r2.out]
        exact(((((o1.mono (by simp)).trans (p1.mono (by intro b hb;simp[hb]))).trans (p2.mono (by intro b hb;simp[hb]))).trans (o3.mono (by simp))).trans (p3.mono (by intro b hb;simp[hb]))).trans (p4.mono (by intro b hb;simp[hb]))
      have hsz2:=hB.lt
      have hs6:k * 6+5 < cs'.size:=by have:=hs.out;omega
      have hPk:PtIn T w5 ((cs'.setIfInBounds (k * 6) (.bool (ks % 3 == 0))).setIfInBounds (k * 6+3) (.bool (ks3 % 3 == 0))) (k * 6) (mkP ks p) (pix fs k):=by
        refine⟨ks % 3 == 0,A,n1,c1,B,m1,d1,ks3 % 3 == 0,C,n2,c2,D,m2,d2,b11 ++ b12,b21 ++ b22,⟨?_,?_,?_,?_,?_,?_⟩,⟨rfl,b11,b12,?_,?_,rfl⟩,⟨?_,b21,b22,?_,?_,rfl⟩,?_⟩
        · rw[Array.getElem?_setIfInBounds_ne (by omega)];simp[Array.getElem?_setIfInBounds] <;> omega
        · rw[Array.getElem?_setIfInBounds_ne (by omega),Array.getElem?_setIfInBounds_ne (by omega)];exact x1
        · rw[Array.getElem?_setIfInBounds_ne (by omega),Array.getElem?_setIfInBounds_ne (by omega)];exact x2
        · simp[Array.getElem?_setIfInBounds] <;> omega
        · rw[Array.getElem?_setIfInBounds_ne (by omega),Array.getElem?_setIfInBounds_ne (by omega)];exact x4
        · rw[Array.getElem?_setIfInBounds_ne (by omega),Array.getElem?_setIfInBounds_ne (by omega)];exact x5
        · rw[mkP_xm lX1.out];exact hX1
        · rw[mkP_xd lX1.out lX2.out];exact hX2
        · rw[mkP_y lX1.out lX2.out hks3.out.symm];rfl
        · rw[mkP_y lX1.out lX2.out hks3.out.symm,mkR_m lY1.out];exact hY1
        · rw[mkP_y lX1.out lX2.out hks3.out.symm,mkR_d lY1.out lY2.out];exact hY2
        · rw[hfs.out,r1.out,r2.out]
      have hall:∀ j,j < n→PtIn T w5 ((cs'.setIfInBounds (k * 6) (.bool (ks % 3 == 0))).setIfInBounds (k * 6+3) (.bool (ks3 % 3 == 0))) (j * 6) (if j < k+1 then mkAt l k0 j else pix l j) (pix fs j):=by
        intro j hj
        by_cases hjk:j=k
        · subst hjk
          rw[if_pos (by omega),hat.out]
          exact hPk
        · have hold:=hM.out j hj
          rw[show (if j < k+1 then mkAt l k0 j else pix l j)=(if j < k then mkAt l k0 j else pix l j) from by
            by_cases h:j < k
            · rw[if_pos h,if_pos (by omega)]
            · rw[if_neg h,if_neg (by omega)]]
          refine hold.keep (fun q hq=> ?_) oall.size fun b hb=> oall.block b (hold.lt b hb) ?_
          · rw[Array.getElem?_setIfInBounds_ne (by omega),Array.getElem?_setIfInBounds_ne (by omega)]
          · intro hm
            rcases List.mem_cons.1 hm with rfl | hm
            · exact hg (mem_flatten_pix hb)
            · exact hdj.out j hj hjk b hb hm
      have hnext:Hid (ks3+1+(n2:Int)+(m2:Int)=k0+(sumTo adv l (k+1):Int)):=by
        unfold Hid
        rw[hMk.out]
        have a1:=lX1.out;have a2:=lX2.out;have a3:=lY1.out;have a4:=lY2.out;have a5:=hks3.out
        simp only[adv,szP,szR]
        omega
      have hO5 := hO.trans (oall.mono (cs := g :: fs.flatten) (by
        intro b hb
        rcases List.mem_cons.1 hb with rfl | hb
        · simp
        · exact List.mem_cons_of_mem _ (mem_flatten_pix hb)))
      clear hPk hM
      have hall:=Lib.hid hall;rename_i h_;clear h_
      go_wp2_with fail
      go_roundw
      case rel=> exact⟨k+1,_,by omega,by go_num,by rw[hnext.out],hB6,by simp[hs.out],hall.out,hO5⟩
      case measure=> simp[intOf];omega
    · obtain rfl:k=n:=by omega
      have hM:=Lib.hid hM;rename_i h_;clear h_
      go_wp2_with fail
      go_ret
      refine⟨rfl,cs',hB,hs.out,⟨hP.1,fun i hi=> ?_⟩,hO⟩
      have:=hM.out i hi
      rw[if_pos hi] at this
      rw[pix_mkL _ _ (by rw[hl.out];exact hi)]
      exact this
theorem markPointS_any {T TP:TypeId}(w:World) {g n c:Nat}{l:List PtD}{cs:Array Value}{fs:List (List Nat)}{k0:Int}(hB:Blk w g TP cs) (hcs:n * 6≤cs.size) (hP:PtsIn T w cs l n fs) (hl:l.length=n)
    (hg:g ∉ fs.flatten) (hnd:fs.flatten.Nodup) (hn:n≤1048576) (hsz:szL szP l≤1048576) (h0:0≤k0) (h1:k0≤1073741824) :
    Calls Tryz.prog 29 #[.slice (some ⟨g,0,none⟩) n c,.int .i64 k0] w fun e w'=> e=.returned (.int .i64 (k0+(sumTo adv l n:Int)))∧∃ cs',Blk w' g TP cs'∧cs'.size=cs.size∧PtsIn T w' cs' (mkL l k0) n fs∧Ob (g :: fs.flatten) w w' :=
  markPointS_big w hB hcs hP hl hg hnd hn (by omega) (fun k hk=> Nat.le_trans (szL_at szP l hk) hsz) h0 h1
end

section
open Go.RowKit

set_option maxHeartbeats 1600000 in
theorem markBigInt_any {T:TypeId}(w:World) {s:Bool}{A:Option Addr}{n c:Nat}{l:List Int}{bs:List Nat}{k0:Int}(h:FtI T w A n c l bs) (hn:n≤1048576) (h0:0≤k0) (h1:k0≤1099511627776) :
    Calls Tryz.prog 31 #[.agg #[.bool s,.slice A n c],.int .i64 k0] w fun e w'=> e=.returned (.int .i64 (k0+(n:Int)))∧FtI T w' A n c (marks k0 n) bs∧Ob bs w w':=by
  go_enter Tryz.func31,Tryz.ntmps31
  go_wp2_with fail
  have hbl:=(Bl.refl w).alloc (.cells #[.bool s,.slice A n c] 29)
  refine(markIntS_any _ (h.bl hbl) hn h0 h1).mono ?_
  rintro e w1 ⟨rfl,hF,hO⟩
  go_wp2_with fail
  go_ret
  exact⟨rfl,hF,(Ob.of_bl hbl _).trans hO⟩
set_option maxHeartbeats 1600000 in
theorem heldBigInt_any (w:World) {s:Bool}{A:Option Addr}{n c:Nat}{k0:Int}(h:RdI w A n c (marks k0 n)) (hn:n≤1048576) (h0:0≤k0) (h1:k0≤1099511627776) :
    Calls Tryz.prog 33 #[.agg #[.bool s,.slice A n c],.int .i64 k0] w fun e w'=> e=.returned (.int .i64 (k0+(n:Int)))∧Bl w w':=by
  go_enter Tryz.func33,Tryz.ntmps33
  go_wp2_with fail
  refine(heldIntS_any _ (h.alloc _) hn h0 h1).mono ?_
  rintro e w1 ⟨rfl,q,rfl⟩
  have hp:¬ k0+(n:Int) < 0:=by omega
  go_wp2_with fail
  go_ret
  exact⟨rfl,slc⟩
set_option maxHeartbeats 4000000 in
theorem markRat_any {T:TypeId}(w:World) {s:Bool}{A:Option Addr}{n c:Nat}{B:Option Addr}{m d:Nat}{r:RatD}{bs:List Nat}{k0:Int}(h:FtR T w s A n c B m d r bs) (hnd:bs.Nodup) (hn:n≤1048576) (hm:m≤1048576) (h0:0≤k0) (h1:k0≤1073741824) :
    Calls Tryz.prog 11 #[.agg #[.bool s,.slice A n c,.slice B m d],.int .i64 k0] w fun e w'=> e=.returned (.int .i64 (k0+(n:Int)+(m:Int)))∧RdI w' A n c (marks k0 n)∧RdI w' B m d (marks (k0+(n:Int)) m)∧Ob bs w w':=by
  obtain⟨hs,b1,b2,hA,hB,rfl⟩:=h
  have hd:=List.nodup_append.1 hnd
  have hs:=Lib.hid hs;rename_i h_;clear h_
  go_enter Tryz.func11,Tryz.ntmps11
  go_wp2_with fail
  have hbl:=(Bl.refl w).alloc (.cells #[.bool s,.slice A n c,.slice B m d] 31)
  refine(markBigInt_any _ (hA.bl hbl) hn h0 (by omega)).mono ?_
  rintro e w1 ⟨rfl,hF,hO⟩
  have hB1:=(hB.bl hbl).ob hO (fun b hb hm'=> hd.2.2 b hm' b hb rfl)
  have hx:Blk w1 w.heap.size 31 #[.bool s,.slice A n c,.slice B m d]:=(Blk.new w _ _).ob hO (fun hm'=> by have:=hA.lt _ hm';omega)
  obtain⟨i0,i1,i2⟩:=bx3 hx
  go_wp2_with fail
  refine(markIntS_any _ hB1 hm (by omega) (by omega)).mono ?_
  rintro e w2 ⟨rfl,hF2,hO2⟩
  have hF3:=hF.ob hO2 (fun b hb hm'=> hd.2.2 b hb b hm' rfl)
  go_wp2_with fail
  go_ret
  exact⟨rfl,hF3.1,hF2.1,(Ob.of_bl hbl _).trans ((hO.mono (fun b hb=> by simp[hb])).trans (hO2.mono (fun b hb=> by simp[hb])))⟩
set_option maxHeartbeats 4000000 in
theorem heldRat_any (w:World) {s:Bool}{A:Option Addr}{n c:Nat}{B:Option Addr}{m d:Nat}{k0:Int}(h:RdI w A n c (marks k0 n)) (k:RdI w B m d (marks (k0+(n:Int)) m)) (hn:n≤1048576) (hm:m≤1048576) (h0:0≤k0) (h1:k0≤1073741824) :
    Calls Tryz.prog 12 #[.agg #[.bool s,.slice A n c,.slice B m d],.int .i64 k0] w fun e w'=> e=.returned (.int .i64 (k0+(n:Int)+(m:Int)))∧Bl w w':=by
  have hp1:¬ k0+(n:Int) < 0:=by omega
  have hp2:¬ k0+(n:Int)+(m:Int) < 0:=by omega
  go_enter Tryz.func12,Tryz.ntmps12
  go_wp2_with fail
  refine(heldBigInt_any _ (h.alloc _) hn h0 (by omega)).mono ?_
  rintro e w1 ⟨rfl,hb1⟩
  obtain⟨i0,i1,i2⟩:=box3 hb1
  have hb1:Bl w w1:=slc
  go_wp2_with fail
  refine(heldIntS_any _ (k.bl hb1) hm (by omega) (by omega)).mono ?_
  rintro e w2 ⟨rfl,q,rfl⟩
  go_wp2_with fail
  go_ret
  exact⟨rfl,slc⟩
end

section
open Go.RowKit



/-- The first k elements copied. -/
def copyTo (l:List Int) (k n:Nat):List Int:=(List.range n).map fun i=> if i < k then ix l i else 0
theorem copyTo_zero (l:List Int) (n:Nat):copyTo l 0 n=List.replicate n 0:=by
  unfold copyTo;simp[List.map_const']
theorem copyTo_succ (l:List Int) (k n:Nat) (_h:k < n):(copyTo l k n).set k (ix l k)=copyTo l (k+1) n:=by
  unfold copyTo
  apply List.ext_getElem (by simp)
  intro i h1 h2
  simp only[List.getElem_set,List.getElem_map,List.getElem_range]
  split
  · next e=> subst e;rw[if_pos (by omega)]
  · next e => by_cases h : i < k
              · rw[if_pos h,if_pos (by omega)]
              · rw[if_neg h,if_neg (by omega)]
theorem copyTo_all (l:List Int) (n:Nat) (h:l.length=n):copyTo l n n=l:=by
  unfold copyTo
  apply List.ext_getElem (by simp[h])
  intro i h1 h2
  simp[ix,h2]
  intro;omega
theorem copyTo_len (l:List Int) (k n:Nat):(copyTo l k n).length=n:=by simp[copyTo]

set_option maxHeartbeats 1600000 in
theorem toIntS_any (w:World) {A:Option Addr}{n c:Nat}{l:List Int}(h:RdI w A n c l) (hn:n≤1099511627776) :
    Calls Tryz.prog 135 #[.slice A n c] w fun e w'=> ∃ g,e=.returned (.slice (some ⟨g,0,none⟩) n n)∧w.heap.size≤g∧Ow 3 w' g l∧Bl w w':=by
  have hl:=Lib.hid h.len
  have hmk:=make_ints (P:=Tryz.prog) Tryz.underlying27 info_int n n (Nat.le_refl _) hn
  go_enter Tryz.func135,Tryz.ntmps135
  go_wp2_with fail
  clear hmk
  go_loopw [4] (fun i wr=> ∃ k:Nat,k≤n∧i=.int .i64 (k:Int)∧Ow 3 wr w.heap.size (copyTo l k n)∧Bl w wr) (fun i _=> n - (intOf i).toNat)
  case atStart=> exact⟨0,Nat.zero_le _,rfl,by rw[copyTo_zero];exact Ow.mk w n,(Bl.refl w).alloc _⟩
  case round =>
    obtain⟨k,hk,rfl,hO,hbw⟩:=hrel
    by_cases hkn:k < n
    · obtain⟨ad,rfl,hlt,hca⟩:=(h.bl hbw).at_ hkn
      have hcell:=hO.cell (k:=k) (by rw[copyTo_len];exact hkn)
      have hfr:=hO.frozen k
      have hO1:=hO.set k (ix l k)
      rw[copyTo_succ l k n hkn] at hO1
      have hki:(k:Int) < (n:Int):=by omega
      go_wp2_with fail
      go_roundw
      case rel=> exact⟨k+1,by omega,by go_num,hO1,hbw.set (Nat.le_refl _) _⟩
      case measure=> simp[intOf];omega
    · obtain rfl:k=n:=by omega
      rw[copyTo_all l _ hl.out] at hO
      go_wp2_with fail
      go_ret
      exact⟨_,rfl,Nat.le_refl _,hO,hbw⟩

set_option maxHeartbeats 1600000 in
theorem toBigInt_any (w:World) {s:Bool}{A:Option Addr}{n c:Nat}{l:List Int}(h:RdI w A n c l) (hn:n≤1099511627776) :
    Calls Tryz.prog 134 #[.agg #[.bool s,.slice A n c]] w fun e w'=> ∃ g,e=.returned (.agg #[.bool s,.slice (some ⟨g,0,none⟩) n n])∧w.heap.size≤g∧Ow 3 w' g l∧Bl w w':=by
  go_enter Tryz.func134,Tryz.ntmps134
  go_wp2_with fail
  refine(toIntS_any _ (h.bl (slc)) hn).mono ?_
  rintro e w1 ⟨g,rfl,hg,hO,hb⟩
  obtain⟨hc,hf⟩:=bcell hb
  have hb1:Bl w w1:=slc
  have hz:=hb.size
  simp only[World.size_alloc] at hz hg
  go_wp2_with fail
  refine bodyPost_ret (v:=.agg #[.bool s,.slice (some ⟨g,0,none⟩) n n]) (by simp[results,Tryz.results134,go_sem,hc]) rfl ⟨g,rfl,by omega,?_,?_⟩
  · repeat (first | exact hO | refine Ow.setFar ?_ (by simp;omega) _)
  · repeat (first | assumption | refine Bl.set ?_ (by simp <;> omega) _)

set_option maxHeartbeats 4000000 in
theorem toRat_any (w:World) {s:Bool}{A:Option Addr}{n c:Nat}{B:Option Addr}{m d:Nat}{r:RatD}(h:RdR w s A n c B m d r) (hn:n≤1099511627776) (hm:m≤1099511627776) :
    Calls Tryz.prog 96 #[.agg #[.bool s,.slice A n c,.slice B m d]] w fun e w'=> ∃ g g',e=.returned (.agg #[.bool s,.slice (some ⟨g,0,none⟩) n n,.slice (some ⟨g',0,none⟩) m m])∧w.heap.size≤g∧g < g'∧Ow 3 w' g r.mag∧Ow 3 w' g' r.den∧Bl w w':=by
  go_enter Tryz.func96,Tryz.ntmps96
  go_wp2_with fail
  refine(toBigInt_any _ (h.mag.bl (slc)) hn).mono ?_
  rintro e w1 ⟨g,rfl,hg,hO,hb⟩
  obtain⟨hc,hf⟩:=bcell hb
  have hb1:Bl w w1:=slc
  have hz:=hb.size
  have hgl:=hO.lt
  simp only[World.size_alloc] at hz hg
  have hz1_0:w.heap.size < w1.heap.size:=by omega
  have hz1_1:w.heap.size+1 < w1.heap.size:=by omega
  have hz1_2:w.heap.size+1+1 < w1.heap.size:=by omega
  go_wp2_with fail
  refine(toIntS_any _ (h.den.bl slc) hm).mono ?_
  rintro e w2 ⟨g',rfl,hg',hO',hb'⟩
  obtain⟨hc2,hf2⟩:=bcell hb'
  have hz2:=hb'.size
  simp only[World.size_setCell] at hz2 hg'
  have hz2_0:w.heap.size < w2.heap.size:=by omega
  have hz2_1:w.heap.size+1 < w2.heap.size:=by omega
  have hz2_2:w.heap.size+1+1 < w2.heap.size:=by omega
  have hO1:Ow 3 w2 g r.mag:=Ow.bl (by repeat (first | with_reducible assumption |(with_reducible refine Ow.setFar ?_ (by simp <;> omega) _) |(with_reducible refine Ow.bl ?_ ‹Bl _ _›))) hb'
  have hb2:Bl w w2:=Bl.next slc hb'
  go_wp2_with fail
  refine bodyPost_ret (v:=.agg #[.bool s,.slice (some ⟨g,0,none⟩) n n,.slice (some ⟨g',0,none⟩) m m]) (by simp[results,Tryz.results96,go_sem,hc,hc2,hz1_1]) rfl ⟨g,g',rfl,by omega,by omega,(by repeat (first | with_reducible assumption |(with_reducible refine Ow.setFar ?_ (by simp <;> omega) _) |(with_reducible refine Ow.bl ?_ ‹Bl _ _›))),(by repeat (first | with_reducible assumption |(with_reducible refine Ow.setFar ?_ (by simp <;> omega) _) |(with_reducible refine Ow.bl ?_ ‹Bl _ _›))),slc⟩

set_option maxHeartbeats 4000000 in
theorem toPoint_any (w:World) {s:Bool}{A:Option Addr}{n c:Nat}{B:Option Addr}{m d:Nat}{t:Bool}{C:Option Addr}{i e:Nat}{D:Option Addr}{j f:Nat}{p:PtD}(h:RdR w s A n c B m d p.x) (k:RdR w t C i e D j f p.y)
    (hn:n≤1099511627776) (hm:m≤1099511627776) (hi:i≤1099511627776) (hj:j≤1099511627776) :
    Calls Tryz.prog 53 #[.agg #[.bool s,.slice A n c,.slice B m d,.bool t,.slice C i e,.slice D j f]] w fun e w'=> ∃ g1 g2 g3 g4,
      e=.returned (.agg #[.bool s,.slice (some ⟨g1,0,none⟩) n n,.slice (some ⟨g2,0,none⟩) m m,.bool t,.slice (some ⟨g3,0,none⟩) i i,.slice (some ⟨g4,0,none⟩) j j])∧(w.heap.size≤g1∧g1 < g2∧g2 < g3∧g3 < g4) ∧
      (Ow 3 w' g1 p.x.mag∧Ow 3 w' g2 p.x.den∧Ow 3 w' g3 p.y.mag∧Ow 3 w' g4 p.y.den)∧Bl w w':=by
  go_enter Tryz.func53,Tryz.ntmps53
  go_wp2_with fail
  refine(toRat_any _ (h.bl (slc)) hn hm).mono ?_
  rintro e w1 ⟨g1,g2,rfl,hg,hg12,hO1,hO2,hb⟩
  obtain⟨hc,hf⟩:=bcell hb
  have hb1:Bl w w1:=slc
  have hz:=hb.size
  have hgl:=hO2.lt
  simp only[World.size_alloc] at hz hg
  have hz1_0:w.heap.size < w1.heap.size:=by omega
  have hz1_1:w.heap.size+1 < w1.heap.size:=by omega
  have hz1_2:w.heap.size+1+1 < w1.heap.size:=by omega
  go_wp2_with fail
  refine(toRat_any _ (k.bl slc) hi hj).mono ?_
  rintro e w2 ⟨g3,g4,rfl,hg',hg34,hO3,hO4,hb'⟩
  obtain⟨hc2,hf2⟩:=bcell hb'
  have hz2:=hb'.size
  simp only[World.size_setCell] at hz2 hg'
  have hz2_0:w.heap.size < w2.heap.size:=by omega
  have hz2_1:w.heap.size+1 < w2.heap.size:=by omega
  have hz2_2:w.heap.size+1+1 < w2.heap.size:=by omega
  have hO1':Ow 3 w2 g1 p.x.mag:=Ow.bl (by repeat (first | with_reducible assumption |(with_reducible refine Ow.setFar ?_ (by simp <;> omega) _) |(with_reducible refine Ow.bl ?_ ‹Bl _ _›))) hb'
  have hO2':Ow 3 w2 g2 p.x.den:=Ow.bl (by repeat (first | with_reducible assumption |(with_reducible refine Ow.setFar ?_ (by simp <;> omega) _) |(with_reducible refine Ow.bl ?_ ‹Bl _ _›))) hb'
  have hb2:Bl w w2:=Bl.next slc hb'
  go_wp2_with fail
  refine bodyPost_ret (v := .agg #[.bool s, .slice (some ⟨g1, 0, none⟩) n n, .slice (some ⟨g2, 0, none⟩) m m, .bool t, .slice (some ⟨g3, 0, none⟩) i i, .slice (some ⟨g4, 0, none⟩) j j]) (by simp [results, Tryz.results53, go_sem, hc, hc2, hz1_1]) rfl
    ⟨g1,g2,g3,g4,rfl,⟨by omega,by omega,by omega,by omega⟩,⟨(by repeat (first | with_reducible assumption |(with_reducible refine Ow.setFar ?_ (by simp <;> omega) _) |(with_reducible refine Ow.bl ?_ ‹Bl _ _›))),(by repeat (first | with_reducible assumption |(with_reducible refine Ow.setFar ?_ (by simp <;> omega) _) |(with_reducible refine Ow.bl ?_ ‹Bl _ _›))),(by repeat (first | with_reducible assumption |(with_reducible refine Ow.setFar ?_ (by simp <;> omega) _) |(with_reducible refine Ow.bl ?_ ‹Bl _ _›))),(by repeat (first | with_reducible assumption |(with_reducible refine Ow.setFar ?_ (by simp <;> omega) _) |(with_reducible refine Ow.bl ?_ ‹Bl _ _›)))⟩,slc⟩

theorem info_pt:(Tryz.prog.info? 76).map (fun i =>(i.zero,i.size,i.bytes))=some (some (.agg #[.bool false,.slice none 0 0,.slice none 0 0,.bool false,.slice none 0 0,.slice none 0 0]),6,112):=by kernel_rfl

set_option maxHeartbeats 4000000 in
theorem toPointS_any (w:World) {A:Option Addr}{n c:Nat}{l:List PtD}(h:RdPS w A n c l) (hn:szL szP l≤1048576) :
    Calls Tryz.prog 19 #[.slice A n c] w fun e w' => ∃ g cs fs, e = .returned (.slice (some ⟨g, 0, none⟩) n n) ∧ w.heap.size ≤ g ∧ Blk w' g 76 cs ∧ cs.size = n * 6 ∧
      PtsIn 3 w' cs l n fs∧Fp (g+1) w'.heap.size fs.flatten∧Bl w w':=by
  have hl:=Lib.hid h.len
  have hn1:n≤1048576:=by have:=hl.out;unfold szL at hn;omega
  have hmk:=make_objs (P:=Tryz.prog) Tryz.underlying33 info_pt (by omega) n n (Nat.le_refl _) (by omega)
  go_enter Tryz.func19,Tryz.ntmps19
  go_wp2_with fail
  clear hmk
  go_loopw [4] (fun i wr=> ∃ k cs fs,k≤n∧i=.int .i64 (k:Int)∧Blk wr w.heap.size 76 cs∧cs.size=n * 6∧PtsIn 3 wr cs l k fs∧Fp (w.heap.size+1) wr.heap.size fs.flatten∧Bl w wr) (fun i _=> n - (intOf i).toNat)
  case atStart=> exact⟨0,_,[],Nat.zero_le _,rfl,Blk.mk w _ _ _ n,size_madeCells _ _,⟨rfl,fun i hi=> by omega⟩,Fp.nil _ _,(Bl.refl w).alloc _⟩
  case round =>
    obtain⟨k,cs,fs,hk,rfl,hB,hcs,hP,hF,hbw⟩:=hrel
    by_cases hkn:k < n
    · obtain⟨ad,rfl,hlt,hat⟩:=h.cells k hkn
      obtain⟨s,A,n',c',B,m,d,t,C,i,e,D,j,f,⟨g0,g1,g2,g3,g4,g5⟩,hx,hy⟩:=hat.bl (by rw[block_add];exact hlt) hbw
      have hki:(k:Int) < (n:Int):=by omega
      go_wp2_with fail
      have hsz:=szL_at szP l (k:=k) (by rw[hl.out];exact hkn)
      simp only[szP,szR] at hsz
      have lx:=Lib.hid hx.mag.len
      have ly:=Lib.hid hx.den.len
      have lz:=Lib.hid hy.mag.len
      have lw:=Lib.hid hy.den.len
      refine(toPoint_any _ hx hy (by have:=lx.out;omega) (by have:=ly.out;omega) (by have:=lz.out;omega) (by have:=lw.out;omega)).mono ?_
      rintro e w1 ⟨q1,q2,q3,q4,rfl,⟨ho0,ho1,ho2,ho3⟩,⟨hO1,hO2,hO3,hO4⟩,hb⟩
      have hB1:=hB.bl hb
      have hb1:Bl w w1:=slc
      have hfr:=hB1.frozen
      obtain⟨v0,x0⟩:=hB1.some (i:=k * 6) (by omega)
      obtain⟨v1,x1⟩:=hB1.some (i:=k * 6+1) (by omega)
      obtain⟨v2,x2⟩:=hB1.some (i:=k * 6+2) (by omega)
      obtain⟨v3,x3⟩:=hB1.some (i:=k * 6+3) (by omega)
      obtain⟨v4,x4⟩:=hB1.some (i:=k * 6+4) (by omega)
      obtain⟨v5,x5⟩:=hB1.some (i:=k * 6+5) (by omega)
      go_wp2_with fail
      have hbs:Bl w ((((((w1.setCell ⟨w.heap.size,k * 6,none⟩ (.bool s)).setCell ⟨w.heap.size,k * 6+1,none⟩ (.slice (some ⟨q1,0,none⟩) n' n')).setCell ⟨w.heap.size,k * 6+2,none⟩ (.slice (some ⟨q2,0,none⟩) m m)).setCell ⟨w.heap.size,k * 6+3,none⟩ (.bool t)).setCell ⟨w.heap.size,k * 6+4,none⟩ (.slice (some ⟨q3,0,none⟩) i i)).setCell ⟨w.heap.size,k * 6+5,none⟩ (.slice (some ⟨q4,0,none⟩) j j)):=slc
      obtain⟨cs',fs',r1,r2,r3,r4⟩:=(hP.bl hb fun b hm =>(hF.2 b hm).2).step hB1 hcs hkn hF (by have:=hB.lt;omega) hb.size ho0 ho1 ho2 ho3 hx.neg hy.neg lx.out ly.out lz.out lw.out hx.mag.small hx.den.small hy.mag.small hy.den.small hO1 hO2 hO3 hO4 rfl
      go_roundw
      case rel=> exact⟨k+1,cs',fs',by omega,by go_num,r1,r2,r3,r4,hbs⟩
      case measure=> simp[intOf];omega
    · obtain rfl:k=n:=by omega
      go_wp2_with fail
      go_ret
      exact⟨_,cs,fs,rfl,Nat.le_refl _,hB,hcs,hP,hF,hbw⟩
end

end Go.Proofs.YtjaapemopbbfaaaGreat
