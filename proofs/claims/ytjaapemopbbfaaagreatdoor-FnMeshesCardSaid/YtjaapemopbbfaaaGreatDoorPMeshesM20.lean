import Derived.Test.YtjaapemopbbfaaaGreatDoorPMeshesM19
import Derived.Laws.AppendOwn
namespace Go.Proofs.YtjaapemopbbfaaaGreatDoor
open Go.RowKit
set_option maxRecDepth 100000
set_option maxHeartbeats 8000000
theorem KX (w:World) {s:Bool}{A:Option Addr}{n c:Nat}{B:Option Addr}{m d:Nat}{t:Bool}{C:Option Addr}{i e:Nat}{D:Option Addr}{j f:Nat}{p:PtD}{s':Bool}{A':Option Addr}{n' c':Nat}{B':Option Addr}{m' d':Nat}{t':Bool}{C':Option Addr}{i' e':Nat}{D':Option Addr}{j' f':Nat}{p':PtD}(h:RdR w s A n c B m d p.x) (k:RdR w t C i e D j f p.y) (h':RdR w s' A' n' c' B' m' d' p'.x) (k':RdR w t' C' i' e' D' j' f' p'.y) :
  Calls Tryz.prog 24 #[.agg #[.bool s,.slice A n c,.slice B m d,.bool t,.slice C i e,.slice D j f],.agg #[.bool s',.slice A' n' c',.slice B' m' d',.bool t',.slice C' i' e',.slice D' j' f']] w λen w'=>∃s1 A1 n1 c1 B1 m1 d1,en=.returned (.agg #[.bool s1,.slice A1 n1 c1,.slice B1 m1 d1])/\OwR 3 w.heap.size w' s1 A1 n1 c1 B1 m1 d1 (xH p p')/\Bl w w':=by
 go_enter Tryz.func24,Tryz.ntmps24
 go_wp2_with fail
 refine qe (λW=>Bl w W/\Blk W (w.heap.size) 28 #[.bool s,.slice A n c,.slice B m d,.bool t,.slice C i e,.slice D j f]/\Blk W (w.heap.size+1) 28 #[.bool s',.slice A' n' c',.slice B' m' d',.bool t',.slice C' i' e',.slice D' j' f']/\Wk 3 26 (w.heap.size+1+1) W) ⟨slc,bts,bts,bts⟩ ?_
 rintro W ⟨hbW,hx,hx',hr⟩
 go_region_held3 (λw'=>(w'.cell? ⟨w.heap.size,0,none⟩=some (.bool s)/\w'.cell? ⟨w.heap.size,1,none⟩=some (.slice A n c)/\w'.cell? ⟨w.heap.size,2,none⟩=some (.slice B m d)/\w'.cell? ⟨w.heap.size,3,none⟩=some (.bool t)/\w'.cell? ⟨w.heap.size,4,none⟩=some (.slice C i e)/\w'.cell? ⟨w.heap.size,5,none⟩=some (.slice D j f))/\(w'.cell? ⟨w.heap.size+1,0,none⟩=some (.bool s')/\w'.cell? ⟨w.heap.size+1,1,none⟩=some (.slice A' n' c')/\w'.cell? ⟨w.heap.size+1,2,none⟩=some (.slice B' m' d')/\w'.cell? ⟨w.heap.size+1,3,none⟩=some (.bool t')/\w'.cell? ⟨w.heap.size+1,4,none⟩=some (.slice C' i' e')/\w'.cell? ⟨w.heap.size+1,5,none⟩=some (.slice D' j' f'))/\(w'.cell? ⟨w.heap.size+1+1,0,none⟩=some (qh w' (w.heap.size+1+1) 0)/\w'.cell? ⟨w.heap.size+1+1,1,none⟩=some (qh w' (w.heap.size+1+1) 1)/\w'.cell? ⟨w.heap.size+1+1,2,none⟩=some (qh w' (w.heap.size+1+1) 2))/\w'.frozen? ⟨w.heap.size+1+1,0,none⟩=false/\w'.frozen? ⟨w.heap.size+1+1,1,none⟩=false/\w'.frozen? ⟨w.heap.size+1+1,2,none⟩=false) (first|exact⟨bx6 (T:=28) bts,bx6 (T:=28) bts,Wk.out3 (T:=26) bts⟩) (first |(go_at_call 55;with_reducible refine(Jf _ (h.bl slc) (k'.bl slc)).mono ?_;rintro en w2 ⟨s2,A2,n2,c2,B2,m2,d2,rfl,hR2,hb2⟩) |(go_at_call 55;with_reducible refine(Jf _ (k.bl slc) (h'.bl slc)).mono ?_;rintro en w3 ⟨s3,A3,n3,c3,B3,m3,d3,rfl,hR3,hb3⟩) |(go_at_call 52;refine(Jh _ (hR2.rd.bl hb3) hR3.rd).mono ?_;rintro en w4 ⟨s1,A1,n1,c1,B1,m1,d1,rfl,hR,hb4⟩))
 have hz:w.heap.size+1+1+1<=W.heap.size:=hr.lt
 have hz2:W.heap.size<=w2.heap.size:=(Bl.size hb2:W.drew.heap.size<=_)
 have hz3:w2.heap.size<=w3.heap.size:=Bl.size hb3
 have hr:=(show Wk 3 26 (w.heap.size+1+1) w4 from bts)
 have hbW:Bl w w4:=slc
 have hR:=hR.mono (show w.heap.size+1+1+1<=w3.heap.size by omega)
 obtain⟨v0,x0⟩:=hr.val_ (i:=0) (by omega)
 obtain⟨v1,x1⟩:=hr.val_ (i:=1) (by omega)
 obtain⟨v2,x2⟩:=hr.val_ (i:=2) (by omega)
 have hg:=hr.lt
 obtain⟨cs4,hB4,hc4⟩:=hr
 have hf0:=hB4.frozen 0
 have hf1:=hB4.frozen 1
 have hf2:=hB4.frozen 2
 go_wp2_with fail
 exact bodyPost_ret (v:=.agg #[.bool s1,.slice A1 n1 c1,.slice B1 m1 d1]) (by simp[results,Tryz.results24,go_sem,x0,x1,x2]) rfl ⟨_,_,_,_,_,_,_,rfl,(((hR.far (by simp) _).far (by simp) _).far (by simp) _).mono (by omega),slc⟩
theorem vh (w:World) {s:Bool}{A:Option Addr}{n c:Nat}{B:Option Addr}{m d:Nat}{t:Bool}{C:Option Addr}{i e:Nat}{D:Option Addr}{j f:Nat}{p:PtD}{s':Bool}{A':Option Addr}{n' c':Nat}{B':Option Addr}{m' d':Nat}{t':Bool}{C':Option Addr}{i' e':Nat}{D':Option Addr}{j' f':Nat}{p':PtD}{s2:Bool}{A2:Option Addr}{n2 c2:Nat}{B2:Option Addr}{m2 d2:Nat}{t2:Bool}{C2:Option Addr}{i2 e2:Nat}{D2:Option Addr}{j2 f2:Nat}{p2:PtD}(h:RdR w s A n c B m d p.x) (k:RdR w t C i e D j f p.y) (h':RdR w s' A' n' c' B' m' d' p'.x) (k':RdR w t' C' i' e' D' j' f' p'.y) (h2:RdR w s2 A2 n2 c2 B2 m2 d2 p2.x) (k2:RdR w t2 C2 i2 e2 D2 j2 f2 p2.y) :
  Calls Tryz.prog 13 #[.agg #[.bool s,.slice A n c,.slice B m d,.bool t,.slice C i e,.slice D j f],.agg #[.bool s',.slice A' n' c',.slice B' m' d',.bool t',.slice C' i' e',.slice D' j' f'],.agg #[.bool s2,.slice A2 n2 c2,.slice B2 m2 d2,.bool t2,.slice C2 i2 e2,.slice D2 j2 f2]] w λen w'=>∃s1 A1 n1 c1 B1 m1 d1,en=.returned (.agg #[.bool s1,.slice A1 n1 c1,.slice B1 m1 d1])/\OwR 3 w.heap.size w' s1 A1 n1 c1 B1 m1 d1 (Yc p p' p2)/\Bl w w':=by
 go_enter Tryz.func13,Tryz.ntmps13
 go_wp2_with fail
 refine qe (λW=>Bl w W/\Blk W (w.heap.size) 28 #[.bool s,.slice A n c,.slice B m d,.bool t,.slice C i e,.slice D j f]/\Blk W (w.heap.size+1) 28 #[.bool s',.slice A' n' c',.slice B' m' d',.bool t',.slice C' i' e',.slice D' j' f']/\Blk W (w.heap.size+1+1) 28 #[.bool s2,.slice A2 n2 c2,.slice B2 m2 d2,.bool t2,.slice C2 i2 e2,.slice D2 j2 f2]/\Wk 3 26 (w.heap.size+1+1+1) W) ⟨slc,bts,bts,bts,bts⟩ ?_
 rintro W ⟨hbW,hx,hx',hx2,hr⟩
 go_region_held3 (λw'=>(w'.cell? ⟨w.heap.size,0,none⟩=some (.bool s)/\w'.cell? ⟨w.heap.size,1,none⟩=some (.slice A n c)/\w'.cell? ⟨w.heap.size,2,none⟩=some (.slice B m d)/\w'.cell? ⟨w.heap.size,3,none⟩=some (.bool t)/\w'.cell? ⟨w.heap.size,4,none⟩=some (.slice C i e)/\w'.cell? ⟨w.heap.size,5,none⟩=some (.slice D j f))/\(w'.cell? ⟨w.heap.size+1,0,none⟩=some (.bool s')/\w'.cell? ⟨w.heap.size+1,1,none⟩=some (.slice A' n' c')/\w'.cell? ⟨w.heap.size+1,2,none⟩=some (.slice B' m' d')/\w'.cell? ⟨w.heap.size+1,3,none⟩=some (.bool t')/\w'.cell? ⟨w.heap.size+1,4,none⟩=some (.slice C' i' e')/\w'.cell? ⟨w.heap.size+1,5,none⟩=some (.slice D' j' f'))/\(w'.cell? ⟨w.heap.size+1+1,0,none⟩=some (.bool s2)/\w'.cell? ⟨w.heap.size+1+1,1,none⟩=some (.slice A2 n2 c2)/\w'.cell? ⟨w.heap.size+1+1,2,none⟩=some (.slice B2 m2 d2)/\w'.cell? ⟨w.heap.size+1+1,3,none⟩=some (.bool t2)/\w'.cell? ⟨w.heap.size+1+1,4,none⟩=some (.slice C2 i2 e2)/\w'.cell? ⟨w.heap.size+1+1,5,none⟩=some (.slice D2 j2 f2))/\(w'.cell? ⟨w.heap.size+1+1+1,0,none⟩=some (qh w' (w.heap.size+1+1+1) 0)/\w'.cell? ⟨w.heap.size+1+1+1,1,none⟩=some (qh w' (w.heap.size+1+1+1) 1)/\w'.cell? ⟨w.heap.size+1+1+1,2,none⟩=some (qh w' (w.heap.size+1+1+1) 2))/\w'.frozen? ⟨w.heap.size+1+1+1,0,none⟩=false/\w'.frozen? ⟨w.heap.size+1+1+1,1,none⟩=false/\w'.frozen? ⟨w.heap.size+1+1+1,2,none⟩=false) (first|exact⟨bx6 (T:=28) bts,bx6 (T:=28) bts,bx6 (T:=28) bts,Wk.out3 (T:=26) bts⟩) (first |(go_at_call 18;with_reducible refine(yt _ (h'.bl slc) (k'.bl slc) (h.bl slc) (k.bl slc)).mono ?_;rintro en w2 ⟨s3,A3,n3,c3,B3,m3,d3,t3,C3,i3,e3,D3,j3,f3,rfl,hP2,hb2⟩) |(go_at_call 18;with_reducible refine(yt _ (h2.bl slc) (k2.bl slc) (h.bl slc) (k.bl slc)).mono ?_;rintro en w3 ⟨s4,A4,n4,c4,B4,m4,d4,t4,C4,i4,e4,D4,j4,f4,rfl,hP3,hb3⟩) |(go_at_call 24;refine(KX _ (hP2.rx.bl hb3) (hP2.ry.bl hb3) hP3.rx hP3.ry).mono ?_;rintro en w4 ⟨s1,A1,n1,c1,B1,m1,d1,rfl,hR,hb4⟩))
 have hz:w.heap.size+1+1+1+1<=W.heap.size:=hr.lt
 have hz2:W.heap.size<=w2.heap.size:=(Bl.size hb2:W.drew.heap.size<=_)
 have hz3:w2.heap.size<=w3.heap.size:=Bl.size hb3
 have hr:=(show Wk 3 26 (w.heap.size+1+1+1) w4 from bts)
 have hbW:Bl w w4:=slc
 have hR:=hR.mono (show w.heap.size+1+1+1+1<=w3.heap.size by omega)
 obtain⟨v0,x0⟩:=hr.val_ (i:=0) (by omega)
 obtain⟨v1,x1⟩:=hr.val_ (i:=1) (by omega)
 obtain⟨v2,x2⟩:=hr.val_ (i:=2) (by omega)
 have hg:=hr.lt
 obtain⟨cs4,hB4,hc4⟩:=hr
 have hf0:=hB4.frozen 0
 have hf1:=hB4.frozen 1
 have hf2:=hB4.frozen 2
 go_wp2_with fail
 exact bodyPost_ret (v:=.agg #[.bool s1,.slice A1 n1 c1,.slice B1 m1 d1]) (by simp[results,Tryz.results13,go_sem,x0,x1,x2]) rfl ⟨_,_,_,_,_,_,_,rfl,(((hR.far (by simp) _).far (by simp) _).far (by simp) _).mono (by omega),slc⟩
theorem Ql (w:World) {s:Bool}{A:Option Addr}{n c:Nat}{B:Option Addr}{m d:Nat}{t:Bool}{C:Option Addr}{i e:Nat}{D:Option Addr}{j f:Nat}{p:PtD}(h:RdR w s A n c B m d p.x) (k:RdR w t C i e D j f p.y) (ho:OkP p) :
  Calls Tryz.prog 44 #[.agg #[.bool s,.slice A n c,.slice B m d,.bool t,.slice C i e,.slice D j f]] w λen w'=>en=.returned (.bool true)/\Bl w w':=by
 have hall:=Lib.hid (yh.2 ho)
 clear ho
 go_enter Tryz.func44,Tryz.ntmps44
 go_wp2_with fail
 refine(js _ (YP.two (Blk.new1 _ _ _ _) (h.bl slc) (k.bl slc)) hall.out).mono ?_
 rintro e w1 ⟨rfl,hb1⟩
 go_wp2_with fail
 go_ret
 exact⟨rfl,slc⟩
def qeR (l:List PtD):Prop:=∀k,k<l.length->OkP (pix l k)
def K4 (a b:List Int):Nat->Bool
 | 0=>true
 | k+1=>K4 a b k&&(ix a k == ix b k)
def eqL (a b:List Int):Bool:=a == b
theorem xl {xs ys:List Int}{k:Nat}(h:K4 xs ys k=true) (he:ix xs k=ix ys k):K4 xs ys (k+1)=true:=by simp[K4,h,he]
theorem qax {xs ys:List Int}{k:Nat}:K4 xs ys k=true↔∀i,i<k->ix xs i=ix ys i:=by
 induction k with
 | zero=>simp[K4]
 | succ k ih=>
  simp only[K4,Bool.and_eq_true,ih,beq_iff_eq]
  constructor
  ·rintro ⟨h1,h2⟩ i hi
   rcases Nat.lt_succ_iff_lt_or_eq.1 hi with h|rfl
   ·exact h1 i h
   ·exact h2
  ·intro h
   exact⟨λi hi=>h i (by omega),h k (by omega)⟩
theorem uL {xs ys:List Int}(h:xs.length=ys.length):eqL xs ys=K4 xs ys xs.length:=by
 rw[Bool.eq_iff_iff,qax]
 unfold eqL
 rw[beq_iff_eq]
 constructor
 ·rintro rfl i _;rfl
 ·intro hh
  apply List.ext_getElem h
  intro i h1 h2
  have:=hh i h1
  simpa [ix,h1,h2]using this
theorem qbb {xs ys:List Int}{k:Nat}(_h:xs.length=ys.length) (_hk:k<xs.length) (he:¬ix xs k=ix ys k):eqL xs ys=false:=by
 unfold eqL
 rw[beq_eq_false_iff_ne]
 rintro rfl
 exact he rfl
theorem Kv {xs ys:List Int}(h:¬xs.length=ys.length):eqL xs ys=false:=by
 unfold eqL
 rw[beq_eq_false_iff_ne]
 rintro rfl
 exact h rfl
theorem YN (w:World) {A B:Option Addr}{n m c d:Nat}{xs ys:List Int}(ha:RdI w A n c xs) (hb:RdI w B m d ys) :
  Calls Tryz.prog 47 #[.slice A n c,.slice B m d] w λe w'=>e=.returned (.bool (eqL xs ys))/\∃q,w'=w.drewN q:=by
 have hna:=ha.small
 have hnb:=hb.small
 by_cases hnm:n=m
 ·subst hnm
  have heq:=Lib.hid (uL (ha.len.trans hb.len.symm));rw[ha.len]at heq
  go_enter Tryz.func47,Tryz.ntmps47
  go_wp2
  go_loopw [13] (λi wr=>∃k:Nat,k<=n/\i=.int .i64 (k:Int)/\Hid (K4 xs ys k=true)/\∃q,wr=w.drewN q) (λi _=>n-(intOf i).toNat)
  case atStart=>exact⟨0,Nat.zero_le _,rfl,rfl,(by first|exact⟨_,rfl⟩|exact⟨0,rfl⟩|exact qf ⟨_,rfl⟩|exact qf (qf ⟨_,rfl⟩))⟩
  case round=>
   obtain⟨k,hk,rfl,hto,q,rfl⟩:=hrel
   by_cases hkn:k<n
   ·obtain⟨ad,rfl,hlta,hca⟩:=ha.at_ hkn
    obtain⟨bd,rfl,hltb,hcb⟩:=hb.at_ hkn
    have hki:(k:Int)<(n:Int):=by omega
    by_cases he:ix xs k=ix ys k
    ·have hs:=Lib.hid (xl hto.out he);clear hto
     have hbeq:(ix xs k != ix ys k)=false:=by simp[he]
     clear he
     go_wp2
     go_quiet (fail)
     go_wp2
     go_roundw
     case rel=>exact⟨k+1,by omega,by go_num,hs,(by first|exact⟨_,rfl⟩|exact⟨0,rfl⟩|exact qf ⟨_,rfl⟩|exact qf (qf ⟨_,rfl⟩))⟩
     case measure=>simp[intOf];omega
    ·have hs:=Lib.hid (qbb (by rw[ha.len,hb.len]) (by rw[ha.len];exact hkn) he);clear hto heq
     have hbeq:(ix xs k != ix ys k)=true:=by simp[he]
     clear he
     go_wp2
     go_quiet (fail)
     go_wp2
     go_ret
     exact⟨qq hs.out.symm,(by first|exact⟨_,rfl⟩|exact⟨0,rfl⟩|exact qf ⟨_,rfl⟩|exact qf (qf ⟨_,rfl⟩))⟩
   ·have hkk:k=n:=by omega
    have hs:=Lib.hid (heq.out.trans (hkk ▸ hto.out));clear hto heq hkk
    go_wp2
    go_ret
    exact⟨qq hs.out.symm,(by first|exact⟨_,rfl⟩|exact⟨0,rfl⟩|exact qf ⟨_,rfl⟩|exact qf (qf ⟨_,rfl⟩))⟩
 ·have hs:=Lib.hid (Kv (xs:=xs) (ys:=ys) (by rw[ha.len,hb.len];exact hnm))
  have hne:((n:Int) != (m:Int))=true:=by simp;omega
  go_enter Tryz.func47,Tryz.ntmps47
  go_wp2
  go_ret
  exact⟨qq hs.out.symm,(by first|exact⟨_,rfl⟩|exact⟨0,rfl⟩|exact qf ⟨_,rfl⟩|exact qf (qf ⟨_,rfl⟩))⟩
theorem Zn (w:World) {A B:Option Addr}{n m c d:Nat}{xs ys:List Int}(ha:RdI w A n c xs) (hb:RdI w B m d ys) :
  Calls Tryz.prog 285 #[.slice A n c,.slice B m d] w λe w'=>e=.returned (.bool (eqL xs ys))/\∃q,w'=w.drewN q:=by
 have hna:=ha.small
 have hnb:=hb.small
 by_cases hnm:n=m
 ·subst hnm
  have heq:=Lib.hid (uL (ha.len.trans hb.len.symm));rw[ha.len]at heq
  go_enter Tryz.func285,Tryz.ntmps285
  go_wp2
  go_loopw [13] (λi wr=>∃k:Nat,k<=n/\i=.int .i64 (k:Int)/\Hid (K4 xs ys k=true)/\∃q,wr=w.drewN q) (λi _=>n-(intOf i).toNat)
  case atStart=>exact⟨0,Nat.zero_le _,rfl,rfl,(by first|exact⟨_,rfl⟩|exact⟨0,rfl⟩|exact qf ⟨_,rfl⟩|exact qf (qf ⟨_,rfl⟩))⟩
  case round=>
   obtain⟨k,hk,rfl,hto,q,rfl⟩:=hrel
   by_cases hkn:k<n
   ·obtain⟨ad,rfl,hlta,hca⟩:=ha.at_ hkn
    obtain⟨bd,rfl,hltb,hcb⟩:=hb.at_ hkn
    have hki:(k:Int)<(n:Int):=by omega
    by_cases he:ix xs k=ix ys k
    ·have hs:=Lib.hid (xl hto.out he);clear hto
     have hbeq:(ix xs k != ix ys k)=false:=by simp[he]
     clear he
     go_wp2
     go_quiet (fail)
     go_wp2
     go_roundw
     case rel=>exact⟨k+1,by omega,by go_num,hs,(by first|exact⟨_,rfl⟩|exact⟨0,rfl⟩|exact qf ⟨_,rfl⟩|exact qf (qf ⟨_,rfl⟩))⟩
     case measure=>simp[intOf];omega
    ·have hs:=Lib.hid (qbb (by rw[ha.len,hb.len]) (by rw[ha.len];exact hkn) he);clear hto heq
     have hbeq:(ix xs k != ix ys k)=true:=by simp[he]
     clear he
     go_wp2
     go_quiet (fail)
     go_wp2
     go_ret
     exact⟨qq hs.out.symm,(by first|exact⟨_,rfl⟩|exact⟨0,rfl⟩|exact qf ⟨_,rfl⟩|exact qf (qf ⟨_,rfl⟩))⟩
   ·have hkk:k=n:=by omega
    have hs:=Lib.hid (heq.out.trans (hkk ▸ hto.out));clear hto heq hkk
    go_wp2
    go_ret
    exact⟨qq hs.out.symm,(by first|exact⟨_,rfl⟩|exact⟨0,rfl⟩|exact qf ⟨_,rfl⟩|exact qf (qf ⟨_,rfl⟩))⟩
 ·have hs:=Lib.hid (Kv (xs:=xs) (ys:=ys) (by rw[ha.len,hb.len];exact hnm))
  have hne:((n:Int) != (m:Int))=true:=by simp;omega
  go_enter Tryz.func285,Tryz.ntmps285
  go_wp2
  go_ret
  exact⟨qq hs.out.symm,(by first|exact⟨_,rfl⟩|exact⟨0,rfl⟩|exact qf ⟨_,rfl⟩|exact qf (qf ⟨_,rfl⟩))⟩
def eqR (a b:qH):Bool:=a.neg == b.neg&&eqL a.mag b.mag&&eqL a.den b.den
theorem Kk {r r':qH}{s s':Bool}(h:s=r.neg) (h':s'=r'.neg) (e0:(s == s')=true) (e1:eqL r.mag r'.mag=true):eqR r r'=eqL r.den r'.den:=by
 unfold eqR;rw[<-h,<-h',e0,e1];rfl
theorem kW {r r':qH}(e1:eqL r.mag r'.mag=false):eqR r r'=false:=by
 unfold eqR;rw[e1];simp
theorem KC {r r':qH}{s s':Bool}(h:s=r.neg) (h':s'=r'.neg) (e0:(s == s')=false):eqR r r'=false:=by
 unfold eqR;rw[<-h,<-h',e0];rfl
def eqP (a b:PtD):Bool:=eqR a.x b.x&&eqR a.y b.y
theorem qcY {p q:PtD}(e0:eqR p.x q.x=true):eqP p q=eqR p.y q.y:=by unfold eqP;rw[e0];rfl
theorem qc3 {p q:PtD}(e0:eqR p.x q.x=false):eqP p q=false:=by unfold eqP;rw[e0];rfl
theorem QJ (w:World) {A B A' B':Option Addr}{n m n' m' c d c' d':Nat}{s s':Bool}{r r':qH}(h:RdR w s A n c B m d r) (h':RdR w s' A' n' c' B' m' d' r') :
  Calls Tryz.prog 16 #[.agg #[.bool s,.slice A n c,.slice B m d],.agg #[.bool s',.slice A' n' c',.slice B' m' d']] w λe w'=>e=.returned (.bool (eqR r r'))/\Bl w w':=by
 by_cases e0:(s == s')=true
 ·by_cases e1:eqL r.mag r'.mag=true
  ·have hs:=Lib.hid (Kk h.neg h'.neg e0 e1)
   go_enter Tryz.func16,Tryz.ntmps16
   go_wp2_with fail
   refine(YN _ ((h.mag.alloc _).alloc _) ((h'.mag.alloc _).alloc _)).mono ?_
   rintro e w' ⟨rfl,q,rfl⟩
   go_wp2_with fail
   refine(YN _ (((h.den.alloc _).alloc _).drewN _) (((h'.den.alloc _).alloc _).drewN _)).mono ?_
   rintro e w' ⟨rfl,q',rfl⟩
   go_wp2_with fail
   go_ret
   exact⟨qq hs.out.symm,slc⟩
  ·have e1:eqL r.mag r'.mag=false:=by simpa using e1
   have hs:=Lib.hid (kW e1)
   go_enter Tryz.func16,Tryz.ntmps16
   go_wp2_with fail
   refine(YN _ ((h.mag.alloc _).alloc _) ((h'.mag.alloc _).alloc _)).mono ?_
   rintro e w' ⟨rfl,q,rfl⟩
   go_wp2_with fail
   go_ret
   exact⟨qq hs.out.symm,slc⟩
 ·have e0:(s == s')=false:=by simpa using e0
  have hs:=Lib.hid (KC h.neg h'.neg e0)
  go_enter Tryz.func16,Tryz.ntmps16
  go_wp2_with fail
  go_ret
  exact⟨qq hs.out.symm,slc⟩
theorem yW (w:World) {A B A' B':Option Addr}{n m n' m' c d c' d':Nat}{s s':Bool}{r r':qH}(h:RdR w s A n c B m d r) (h':RdR w s' A' n' c' B' m' d' r') :
  Calls Tryz.prog 272 #[.agg #[.bool s,.slice A n c,.slice B m d],.agg #[.bool s',.slice A' n' c',.slice B' m' d']] w λe w'=>e=.returned (.bool (eqR r r'))/\Bl w w':=by
 by_cases e0:(s == s')=true
 ·by_cases e1:eqL r.mag r'.mag=true
  ·have hs:=Lib.hid (Kk h.neg h'.neg e0 e1)
   go_enter Tryz.func272,Tryz.ntmps272
   go_wp2_with fail
   refine(Zn _ ((h.mag.alloc _).alloc _) ((h'.mag.alloc _).alloc _)).mono ?_
   rintro e w' ⟨rfl,q,rfl⟩
   go_wp2_with fail
   refine(Zn _ (((h.den.alloc _).alloc _).drewN _) (((h'.den.alloc _).alloc _).drewN _)).mono ?_
   rintro e w' ⟨rfl,q',rfl⟩
   go_wp2_with fail
   go_ret
   exact⟨qq hs.out.symm,slc⟩
  ·have e1:eqL r.mag r'.mag=false:=by simpa using e1
   have hs:=Lib.hid (kW e1)
   go_enter Tryz.func272,Tryz.ntmps272
   go_wp2_with fail
   refine(Zn _ ((h.mag.alloc _).alloc _) ((h'.mag.alloc _).alloc _)).mono ?_
   rintro e w' ⟨rfl,q,rfl⟩
   go_wp2_with fail
   go_ret
   exact⟨qq hs.out.symm,slc⟩
 ·have e0:(s == s')=false:=by simpa using e0
  have hs:=Lib.hid (KC h.neg h'.neg e0)
  go_enter Tryz.func272,Tryz.ntmps272
  go_wp2_with fail
  go_ret
  exact⟨qq hs.out.symm,slc⟩
theorem Qb (w:World) {A B A' B':Option Addr}{n m n' m' c d c' d':Nat}{s s':Bool}{C D C' D':Option Addr}{i j i' j' e f e' f':Nat}{t t':Bool}{p q:PtD}
  (h:RdR w s A n c B m d p.x) (k:RdR w t C i e D j f p.y) (h':RdR w s' A' n' c' B' m' d' q.x) (k':RdR w t' C' i' e' D' j' f' q.y) :
  Calls Tryz.prog 15 #[.agg #[.bool s,.slice A n c,.slice B m d,.bool t,.slice C i e,.slice D j f],.agg #[.bool s',.slice A' n' c',.slice B' m' d',.bool t',.slice C' i' e',.slice D' j' f']] w λe w'=>e=.returned (.bool (eqP p q))/\Bl w w':=by
 by_cases e0:eqR p.x q.x=true
 ·have hs:=Lib.hid (qcY e0)
  go_enter Tryz.func15,Tryz.ntmps15
  go_wp2_with fail
  refine(QJ _ ((h.alloc _).alloc _) ((h'.alloc _).alloc _)).mono ?_
  rintro e w1 ⟨rfl,hb⟩
  obtain⟨hc,hf⟩:=zr hb
  have hb1:Bl w w1:=slc
  go_wp2_with fail
  refine(QJ _ (k.bl hb1) (k'.bl hb1)).mono ?_
  rintro e w2 ⟨rfl,hb2⟩
  go_wp2_with fail
  go_ret
  exact⟨qq hs.out.symm,slc⟩
 ·have e0:eqR p.x q.x=false:=by simpa using e0
  have hs:=Lib.hid (qc3 e0)
  go_enter Tryz.func15,Tryz.ntmps15
  go_wp2_with fail
  refine(QJ _ ((h.alloc _).alloc _) ((h'.alloc _).alloc _)).mono ?_
  rintro e w1 ⟨rfl,hb⟩
  go_wp2_with fail
  go_ret
  exact⟨qq hs.out.symm,slc⟩
theorem YS (w:World) {A B A' B':Option Addr}{n m n' m' c d c' d':Nat}{s s':Bool}{C D C' D':Option Addr}{i j i' j' e f e' f':Nat}{t t':Bool}{p q:PtD}
  (h:RdR w s A n c B m d p.x) (k:RdR w t C i e D j f p.y) (h':RdR w s' A' n' c' B' m' d' q.x) (k':RdR w t' C' i' e' D' j' f' q.y) :
  Calls Tryz.prog 246 #[.agg #[.bool s,.slice A n c,.slice B m d,.bool t,.slice C i e,.slice D j f],.agg #[.bool s',.slice A' n' c',.slice B' m' d',.bool t',.slice C' i' e',.slice D' j' f']] w λe w'=>e=.returned (.bool (eqP p q))/\Bl w w':=by
 by_cases e0:eqR p.x q.x=true
 ·have hs:=Lib.hid (qcY e0)
  go_enter Tryz.func246,Tryz.ntmps246
  go_wp2_with fail
  refine(yW _ ((h.alloc _).alloc _) ((h'.alloc _).alloc _)).mono ?_
  rintro e w1 ⟨rfl,hb⟩
  obtain⟨hc,hf⟩:=zr hb
  have hb1:Bl w w1:=slc
  go_wp2_with fail
  refine(yW _ (k.bl hb1) (k'.bl hb1)).mono ?_
  rintro e w2 ⟨rfl,hb2⟩
  go_wp2_with fail
  go_ret
  exact⟨qq hs.out.symm,slc⟩
 ·have e0:eqR p.x q.x=false:=by simpa using e0
  have hs:=Lib.hid (qc3 e0)
  go_enter Tryz.func246,Tryz.ntmps246
  go_wp2_with fail
  refine(yW _ ((h.alloc _).alloc _) ((h'.alloc _).alloc _)).mono ?_
  rintro e w1 ⟨rfl,hb⟩
  go_wp2_with fail
  go_ret
  exact⟨qq hs.out.symm,slc⟩
theorem qci {a b:qH}:eqR a b=true↔a=b:=by
 cases a;cases b
 simp[eqR,eqL,and_assoc]
theorem KT {a b:PtD}:eqP a b=true↔a=b:=by
 cases a;cases b
 simp[eqP,qci]
theorem Ke {a b:PtD}(h:¬a=b):eqP a b=false:=by
 rw[<-Bool.not_eq_true,KT];exact h
def U8 {α:Type} [DecidableEq α] (a b:α):Bool:=decide (a=b)
theorem uy {α:Type} [DecidableEq α] {a b:α}(h:a=b):U8 a b=true:=decide_eq_true h
theorem Vi {α:Type} [DecidableEq α] {a b:α}(h:¬a=b):U8 a b=false:=decide_eq_false h
def Yp {α:Type} [Inhabited α] (l l':List α) (k:Nat):Prop:=∀i,i<k->pix l i=pix l' i
theorem Yp.zero {α:Type} [Inhabited α] (l l':List α):Yp l l' 0:=λi hi=>by omega
theorem Yp.step {α:Type} [Inhabited α] {l l':List α}{k:Nat}(h:Yp l l' k) (e:pix l k=pix l' k):Yp l l' (k+1):=by
 intro i hi
 rcases Nat.lt_succ_iff_lt_or_eq.1 hi with hi|rfl
 ·exact h i hi
 ·exact e
theorem Yp.all {α:Type} [Inhabited α] {l l':List α}{n:Nat}(h:Yp l l' n) (hl:l.length=n) (hl':l'.length=n):l=l':=ve hl hl' h
theorem Zw (w:World) {A B:Option Addr}{n m c d:Nat}{l l':List PtD}(ha:qR w A n c l) (hb:qR w B m d l') :
  Calls Tryz.prog 63 #[.slice A n c,.slice B m d,.func (.func 15) #[] #[]] w λe w'=>e=.returned (.bool (U8 l l'))/\Bl w w':=by
 have hna:=ha.small
 have hnb:=hb.small
 by_cases hnm:n=m
 ·subst hnm
  have hl:=Lib.hid ha.len
  have hl':=Lib.hid hb.len
  go_enter Tryz.func63,Tryz.ntmps63
  go_wp2
  go_loopw [17] (λi wr=>∃k:Nat,k<=n/\i=.int .i64 (k:Int)/\Yp l l' k/\Bl w wr) (λi _=>n-(intOf i).toNat)
  case atStart=>exact⟨0,Nat.zero_le _,rfl,Yp.zero _ _,Bl.refl _⟩
  case round=>
   obtain⟨k,hk,rfl,hag,hbw⟩:=hrel
   by_cases hkn:k<n
   ·obtain⟨ad,rfl,hlta,hca⟩:=(ha.bl hbw).cells k hkn
    obtain⟨bd,rfl,hltb,hcb⟩:=(hb.bl hbw).cells k hkn
    obtain⟨s,A,n',c',B,m,d',t,C,i,e,D,j,f,⟨g0,g1,g2,g3,g4,g5⟩,hx,hy⟩:=hca
    have hcb1:=hcb.bl (by rw[qQ];exact hltb) (slc:Bl wr (wr.alloc (.cells #[.bool s,.slice A n' c',.slice B m d',.bool t,.slice C i e,.slice D j f] 28)))
    obtain⟨s',A',n'',c'',B',m',d'',t',C',i',e',D',j',f',⟨p0,p1,p2,p3,p4,p5⟩,hx',hy'⟩:=hcb1
    have hki:(k:Int)<(n:Int):=by omega
    by_cases heq:pix l k=pix l' k
    ·have heq':=Lib.hid heq
     have hans:=KT.2 heq
     clear heq
     go_wp2_with fail
     refine(Qb _ ((hx.alloc _).alloc _) ((hy.alloc _).alloc _) (hx'.alloc _) (hy'.alloc _)).mono ?_
     rintro e w1 ⟨rfl,hb1⟩
     have hb2:Bl w w1:=slc
     clear hb1
     go_wp2_with fail
     go_roundw
     case rel=>exact⟨k+1,by omega,by go_num,hag.step heq'.out,hb2⟩
     case measure=>simp[intOf];omega
    ·have hs:=Lib.hid (Vi (a:=l) (b:=l') (λe=>heq (by rw[e])))
     have hans:=Ke heq
     clear heq
     go_wp2_with fail
     refine(Qb _ ((hx.alloc _).alloc _) ((hy.alloc _).alloc _) (hx'.alloc _) (hy'.alloc _)).mono ?_
     rintro e w1 ⟨rfl,hb1⟩
     have hb2:Bl w w1:=slc
     clear hb1
     go_wp2_with fail
     go_ret
     exact⟨qq hs.out.symm,hb2⟩
   ·have hs := Lib.hid (uy ((by
                     obtain rfl : k = n := by omega
                     exact hag.all hl.out hl'.out):l=l'))
    go_wp2_with fail
    go_ret
    exact⟨qq hs.out.symm,hbw⟩
 ·have hs:=Lib.hid (Vi (a:=l) (b:=l') (λe=>hnm (by rw[<-ha.len,<-hb.len,e])))
  have hne:((n:Int) != (m:Int))=true:=by simp;omega
  go_enter Tryz.func63,Tryz.ntmps63
  go_wp2
  go_ret
  exact⟨qq hs.out.symm,Bl.refl _⟩
def sg (l:List UInt8) (a b:Nat):List UInt8:=(l.take b).drop a
theorem qcX (l:List UInt8) (a:Nat):sg l a a=[]:=by unfold sg;rw[List.drop_eq_nil_iff];simp;omega
theorem qbM {l:List UInt8}{a b:Nat}(h:a<=b) (hb:b<l.length):sg l a (b+1)=sg l a b++[l.getD b 0]:=by
 unfold sg
 rw[List.take_add_one,List.getElem?_eq_getElem hb,List.drop_append_of_le_length (by rw[List.length_take];omega),List.getD_eq_getElem?_getD,List.getElem?_eq_getElem hb]
 rfl
theorem qa9 {l:List UInt8}{a b:Nat}(hb:b<=l.length):(sg l a b).length=b-a:=by unfold sg;rw[List.length_drop,List.length_take];omega
theorem qcp {l:List UInt8}{a b:Nat}(h:a<=b):l.take b=l.take a++sg l a b:=by
 unfold sg
 have:=List.take_append_drop a (l.take b)
 rw[List.take_take,Nat.min_eq_left h]at this
 exact this.symm
theorem qcZ (a b:List UInt8):vD (a++b)=vD a*10 ^ b.length+vD b:=by
 induction b using Vo with
 | h0=>simp[V9]
 | h1 l x ih=>rw[<-List.append_assoc,Zh,Zh,ih,List.length_append,List.length_singleton,Nat.pow_succ,show vD a*(10 ^ l.length*10)=10*(vD a*10 ^ l.length)by rw[<-Nat.mul_assoc,Nat.mul_comm]];omega
theorem qda {l:List UInt8}(h:l.all Z0=true) (a b:Nat):(sg l a b).all Z0=true:=by
 rw[List.all_eq_true]at h ⊢
 intro x hx
 exact h x (List.mem_of_mem_take (List.mem_of_mem_drop hx))
theorem uK {l:List UInt8}(h:l.all Z0=true) {a b:Nat}(hb:b<=l.length) (h9:b<=a+9):vD (sg l a b)<1000000000:=by
 have h1:=qdr _ (qda h a b)
 rw[qa9 hb]at h1
 have h2:10 ^ (b-a)<=10 ^ 9:=Nat.pow_le_pow_right (by decide) (by omega)
 omega
structure kV (l:List UInt8) (E:Int) (d:List Nat):Prop where
 lo : -9<E
 len:9*(d.length:Int)+E=l.length
 digs:jL d
 eq:vD l=vD (l.take E.toNat)*Bs ^ d.length+val d
theorem kV.start (l:List UInt8):kV l (l.length:Int) []:=⟨by omega,by simp,(λx hx=>by cases hx),by simp[val]⟩
theorem kV.step {l:List UInt8}{e:Nat}{d:List Nat}(h:kV l (e:Int) d) (h0:0<e) (ha:l.all Z0=true) {f:Nat}(hf:f=e-9):kV l ((e:Int)-9) (d++[vD (sg l f e)]):=by
 have hl:=h.len
 have hel:e<=l.length:=by omega
 have hlt:vD (sg l f e)<Bs:=by rw[qk];exact uK ha hel (by omega)
 refine⟨by omega,by rw[List.length_append,List.length_singleton];omega,ZS h.digs hlt,?_⟩
 have heq:=h.eq
 rw[Int.toNat_natCast,qcp (show f<=e by omega),qcZ,qa9 hel]at heq
 rw[ZY,List.length_append,List.length_singleton,Nat.pow_succ,heq,show (((e:Int)-9)).toNat=f by omega]
 rcases Nat.lt_or_ge e 9 with h9|h9
 ·obtain rfl:f=0:=by omega
  simp[V9]
  omega
 ·rw[show e-f=9 by omega,show (10:Nat) ^ 9=Bs from rfl,Nat.add_mul,Nat.mul_assoc,Nat.mul_comm Bs]
  omega
theorem kV.stop {l:List UInt8}{E:Int}{d:List Nat}(h:kV l E d) (h0:E<=0):vD l=val d:=by
 have:=h.eq
 rw[show E.toNat=0 by omega]at this
 simpa [V9]using this
theorem kV.short {l:List UInt8}{E:Int}{d:List Nat}(h:kV l E d) (hl:l.length<=540):d.length<=60:=by
 have:=h.len
 have:=h.lo
 omega
theorem K2 {l:List UInt8}(h:yH l=true):l.all Z0=true:=by unfold yH at h;simp only[Bool.and_eq_true]at h;exact h.2
theorem Kj {s:ByteArray}(h:yH (bl s)=true):0<s.size:=((Yh s).1 h).1
theorem Kt {s:ByteArray}(h:0<s.size):(bl s).head?=some (bt s 0):=by
 unfold bt
 rw[<-zZ]at h
 cases hb:bl s with
 | nil=>rw[hb]at h;cases h
 | cons a t=>rfl
theorem qab {s:ByteArray}(h:(bl s).all Z0=true) {i:Nat}(hi:i<s.size):48<=(bt s i).toNat/\(bt s i).toNat<=57:=by
 have h1 := List.all_eq_true.1 h (bt s i) (by
  unfold bt
  rw[List.getD_eq_getElem?_getD,List.getElem?_eq_getElem (by rw[zZ];exact hi)]
  exact List.getElem_mem _)
 unfold Z0 at h1
 simpa using h1
theorem US {s:ByteArray}{f i:Nat}(h:f<=i) (hi:i<s.size):vD (sg (bl s) f (i+1))=10*vD (sg (bl s) f i)+((bt s i).toNat-48):=by
 rw[qbM h (by rw[zZ];exact hi),Zh]
 rfl
def qc0 (w:World) (s:ByteArray) (e:Ending) (w':World):Prop :=
 ((Q4 (bl s)=true/\∃A n c,e=.returned (.tuple #[.slice A n c,.bool true])/\OwI 3 w.heap.size w' A n c (qu (dig (vD (bl s)))))\/(Q4 (bl s)=false/\e=.returned (.tuple #[.slice none 0 0,.bool false])))/\Bl w w'
def ur (w:World) (A:Option Addr) (n:Nat) (l:List (List UInt8)):Prop:=l.length=n/\∀k,k<n->∃ad,A=some ad/\ad.block<w.heap.size/\w.cell? (ad.add k)=some (.string (sb (l.getD k [])))
theorem ur.bl {w W:World}{A:Option Addr}{n:Nat}{l:List (List UInt8)}(h:ur w A n l) (hb:Bl w W):ur W A n l :=
 ⟨h.1,λk hk=>by
  obtain⟨ad,e,hlt,hc⟩:=h.2 k hk
  exact⟨ad,e,Nat.lt_of_lt_of_le hlt hb.size,(Bl.qeV hb (p:=ad.add k) (by rw[qQ];exact hlt)).trans hc⟩⟩
theorem qbh (s:ByteArray) (a b:Nat):s.extract a b=sb (sg (bl s) a b):=by
 apply qbs
 rw[X7]
 unfold bl sg
 rw[Lib.extract_data,List.take_drop]
 rcases Nat.lt_or_ge b a with h|h
 ·rw[show a+(b-a)=a by omega,List.drop_eq_nil_of_le (by rw[List.length_take];omega),List.drop_eq_nil_of_le (by rw[List.length_take];omega)]
 ·rw[show a+(b-a)=b by omega]
theorem kX (x:Int):0<=bits .and .i64 x 255/\bits .and .i64 x 255<=255:=by
 rw[bits.eq_1]
 have h:(BitVec.ofInt IntKind.i64.bits x &&& BitVec.ofInt IntKind.i64.bits 255).toNat<=255:=by
  rw[BitVec.toNat_and]
  exact Nat.le_trans Nat.and_le_right (by decide)
 rw[IntKind.wrap_i64]
 omega
def qdm (w:World) (p:Addr) (x:Int):Prop:=w.cell? p=some (.int .u8 x)/\0<=x/\x<=255
abbrev RdB:=RdS 1 qdm
theorem RdB.bl {w W:World}{A:Option Addr}{n c:Nat}{l:List Int}(h:RdB w A n c l) (hb:Bl w W):RdB W A n c l:=RdS.bl (λh hp hb=>⟨by rw[hb.qeV hp];exact h.1,h.2⟩) h hb
theorem RdB.ob {w W:World}{A:Option Addr}{n c g:Nat}{l:List Int}(h:RdB w A n c l) (hg:∀ad,A=Option.some ad->0<n->ad.block≠g) (hb:Ob [g] w W):RdB W A n c l :=
 ⟨h.len,h.cap,h.small,λk hk=>by
  obtain⟨ad,e,hlt,hc,hx⟩:=h.cells k hk
  refine⟨ad,e,Nat.lt_of_lt_of_le hlt hb.size,?_,hx⟩
  exact(World.cell?_of_block (w:=w) (hb.block (ad.add (k*1)).block (by rw[qQ];exact hlt) (by rw[qQ];simpa using hg ad e (by omega)))).trans hc⟩
def KK (l:List PtD):Prop:=qeR l/\∃a b c,l=[a,b,c]/\0<Zi (Yc a b c)
open Classical in
noncomputable def Q5 (l:List PtD):Bool:=decide (KK l)
theorem kK {l:List PtD}(h:KK l):Q5 l=true:=by unfold Q5;simp[h]
theorem qae {l:List PtD}(h:¬KK l):Q5 l=false:=by unfold Q5;simp[h]
end Go.Proofs.YtjaapemopbbfaaaGreatDoor
