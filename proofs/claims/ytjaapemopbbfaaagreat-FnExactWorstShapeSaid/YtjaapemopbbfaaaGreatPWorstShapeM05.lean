/- Lemmas. -/
import Derived.Test.YtjaapemopbbfaaaGreatRows
import Derived.Test.YtjaapemopbbfaaaGreatPWorstShapeM04
namespace Go.Proofs.YtjaapemopbbfaaaGreat
section
open Go.RowKit

/-- What holds behind k rounds of a multiplication by a limb. -/
structure ScRel (N b n k c:Nat) (o:List Nat):Prop where
  len:o.length=n
  digs:Digs o
  small:c < Bs
  sum:vf (dx o) k+c * Bs ^ k=b * vf (dx (dig N)) k
theorem ScRel.start (N b n:Nat):ScRel N b n 0 0 (List.replicate n 0):=⟨by simp,digs_replicate _,Bs_pos,by simp[vf]⟩
theorem ScRel.step {N b n k c:Nat}{o:List Nat}(h:ScRel N b n k c o) (hk:k < n) (hb:b < Bs) :
    ScRel N b n (k+1) ((c+dx (dig N) k * b) / Bs) (o.set k ((c+dx (dig N) k * b) % Bs)):=by
  have hi:k < o.length:=by rw[h.len];exact hk
  refine⟨by rw[List.length_set];exact h.len,digs_set h.digs (Nat.mod_lt _ Bs_pos) _,?_,?_⟩
  · have:=mul_carry (z:=0) Bs_pos (dx_lt (digs_dig N) k) hb h.small
    rw[Nat.zero_add,Nat.add_comm] at this
    exact this
  · have h1:vf (dx (o.set k ((c+dx (dig N) k * b) % Bs))) k=vf (dx o) k:=vf_congr fun i hi'=> by rw[dx_set hi,if_neg (by omega)]
    have h2:=h.sum
    have h3:=Nat.mod_add_div (c+dx (dig N) k * b) Bs
    simp only[vf]
    rw[h1,dx_set hi,if_pos rfl,Nat.pow_succ]
    generalize (c+dx (dig N) k * b) % Bs=s at *
    generalize (c+dx (dig N) k * b) / Bs=q at *
    have h4:(s+Bs * q) * Bs ^ k=(c+dx (dig N) k * b) * Bs ^ k:=by rw[h3]
    grind
theorem ScRel.stop {N b n c:Nat}{o:List Nat}(h:ScRel N b n n c o) (hn:(dig N).length≤n) (hlt:b * N < Bs ^ n):val o=b * N:=by
  have h1:=h.sum
  rw[val_vf (by rw[h.len];exact Nat.le_refl _),val_vf hn,val_dig] at h1
  rcases Nat.eq_zero_or_pos c with h0 | h0
  · subst h0;omega
  · have:=Nat.mul_le_mul_right (Bs ^ n) h0
    omega

set_option maxHeartbeats 4000000 in
theorem scaled_any (w:World) {A:Option Addr}{n c N b s:Nat}(ha:IsN w A n c N) (hs:s≤1048577) (hb:b < 1000000000) (hn:n≤s) (hlt:b * N < Bs ^ s) :
    Calls Tryz.prog 173 #[.slice A n c,.int .i64 (b:Int),.int .i64 (s:Int)] w fun e w'=> ∃ g o,e=.returned (.slice (some ⟨g,0,none⟩) s s)∧w.heap.size≤g∧Ow 3 w' g (ints o)∧o.length=s∧Digs o∧val o=b * N∧Bl w w':=by
  have hmk:=make_ints (P:=Tryz.prog) Tryz.underlying27 info_int s s (Nat.le_refl _) (by omega)
  go_enter Tryz.func173,Tryz.ntmps173
  go_wp2_with fail
  clear hmk
  go_loopw [8,15] (fun cv i wr=> ∃ (k c1:Nat) (o:List Nat),k≤s∧i=.int .i64 (k:Int)∧cv=.int .i64 (c1:Int)∧ScRel N b s k c1 o∧Ow 3 wr w.heap.size (ints o)∧Bl w wr) (fun _ i _=> s - (intOf i).toNat)
  case atStart=> exact⟨0,0,List.replicate s 0,Nat.zero_le _,rfl,rfl,ScRel.start _ _ _,by rw[ints_replicate];exact Ow.mk w s,(Bl.refl w).alloc _⟩
  case round =>
    obtain⟨k,c1,o,hk,rfl,rfl,hrel,hO,hbw⟩:=hrel
    by_cases hks:k < s
    · have hki:(k:Int) < (s:Int):=by omega
      have hcell:=hO.cell (k:=k) (by rw[ints_len,hrel.len];exact hks)
      rw[ix_ints] at hcell
      have hfr:=hO.frozen k
      have bx:=dx_lt (digs_dig N) k
      rw[Bs_eq] at bx
      have hc1:=hrel.small
      rw[Bs_eq] at hc1
      have hst:=hrel.step hks (by rw[Bs_eq];exact hb)
      have hO1:=hO.set k (((c1+dx (dig N) k * b) % Bs:Nat):Int)
      rw[← ints_set] at hO1
      by_cases hkn:k < n
      · obtain⟨ad,rfl,hlta,hca⟩:=(ha.bl hbw).atN hkn
        have hkj:(k:Int) < (n:Int):=by omega
        generalize dx (dig N) k=x at *
        have hxy0:(0:Int)≤(x:Int) * (b:Int):=by exact_mod_cast Nat.zero_le (x * b)
        have hxy:(x:Int) * (b:Int)≤999999998000000001:=by
          have:x * b≤999999999 * 999999999:=Nat.mul_le_mul (by omega) (by omega)
          have h2:((x * b:Nat):Int)≤999999998000000001:=by omega
          rwa [Int.natCast_mul] at h2
        have e1:((((c1+x * b) % Bs:Nat):Int))=((c1:Int)+(x:Int) * (b:Int)) % 1000000000:=by rw[Bs_eq,← Int.natCast_mul];omega
        have e2:((((c1+x * b) / Bs:Nat):Int))=((c1:Int)+(x:Int) * (b:Int)) / 1000000000:=by rw[Bs_eq,← Int.natCast_mul];omega
        rw[e1] at hO1
        have e2:=Lib.hid e2;rename_i e2o;clear e2o e1
        go_wp2_with fail
        go_roundw
        case rel=> exact⟨k+1,_,_,by omega,by go_num,by rw[e2.out],hst,hO1,hbw.set (Nat.le_refl _) _⟩
        case measure=> simp[intOf];omega
      · have hz:dx (dig N) k=0:=dx_beyond (by rw[ha.lenN];omega)
        have hkj:¬ (k:Int) < (n:Int):=by omega
        simp only[hz,Nat.zero_mul,Nat.add_zero] at hst hO1
        clear hz bx
        have e1:(((c1 % Bs:Nat):Int))=(c1:Int) % 1000000000:=by rw[Bs_eq];omega
        have e2:(((c1 / Bs:Nat):Int))=(c1:Int) / 1000000000:=by rw[Bs_eq];omega
        rw[e1] at hO1
        have e2:=Lib.hid e2;rename_i e2o;clear e2o e1
        go_wp2_with fail
        go_roundw
        case rel=> exact⟨k+1,_,_,by omega,by go_num,by rw[e2.out],hst,hO1,hbw.set (Nat.le_refl _) _⟩
        case measure=> simp[intOf];omega
    · obtain rfl:k=s:=by omega
      have hv:=hrel.stop (by rw[ha.lenN];omega) hlt
      have hv:=Lib.hid hv;rename_i hvo;clear hvo
      have hl:=Lib.hid hrel.len
      have hdg:=hrel.digs
      go_wp2_with fail
      go_ret
      exact⟨_,o,rfl,Nat.le_refl _,hO,hl.out,hdg,hv.out,hbw⟩



/-- Only block g, and what is new, may have turned. -/
def Og (g:Nat) (w w':World):Prop:=w.grownBy w' (some g)
section
variable {T:TypeId}{g g2:Nat}{w W w0:World}{l:List Int}
theorem Og.refl (g:Nat) (w:World):Og g w w:=World.grownBy.refl w _
theorem Og.set (h:Og g w W) (off:Nat) (u:Value):Og g w (W.setCell ⟨g,off,none⟩ u) :=
  ⟨h.os,h.tape,h.output,by simpa [World.setCell] using h.size,fun k hk hne =>(Below.heap_setCell W _ u k (by intro e;exact hne (by rw[e]))).trans (h.block k hk hne)⟩
theorem Ow.og (h:Ow T w g2 l) (hne:g2≠g) (ho:Og g w W):Ow T W g2 l:=(ho.block g2 h.lt (by intro e;injection e with e;exact hne e)).trans h
theorem Bl.og (h:Bl w0 w) (ho:Og g w W) (hg:w0.heap.size≤g):Bl w0 W:=h.grown ho (fun k hk=> by injection hk with hk;omega)
end

/-- What holds behind k rounds of taking b times v away from the limbs of u from 'off' on. -/
structure SbRel (us v:List Nat) (off b k bw:Nat) (o:List Nat):Prop where
  len:o.length=us.length
  digs:Digs o
  small:bw < Bs
  diff:vf (fun i=> dx o (off+i)) k+b * vf (dx v) k=vf (fun i=> dx us (off+i)) k+bw * Bs ^ k
  same:∀ j,(j < off∨off+k≤j)→dx o j=dx us j
theorem SbRel.start {us v:List Nat}(off b:Nat) (h:Digs us):SbRel us v off b 0 0 us:=⟨rfl,h,Bs_pos,by simp[vf],fun _ _=> rfl⟩
theorem SbRel.step {us v o:List Nat}{off b k bw d bw':Nat}(h:SbRel us v off b k bw o) (hk:off+k < us.length) (hd:d < Bs) (hb:bw' < Bs) (he:d+bw+dx v k * b=dx us (off+k)+bw' * Bs) :
    SbRel us v off b (k+1) bw' (o.set (off+k) d):=by
  have hi:off+k < o.length:=by rw[h.len];exact hk
  refine⟨by rw[List.length_set];exact h.len,digs_set h.digs hd _,hb,?_,fun j hj=> ?_⟩
  · have h1:vf (fun i=> dx (o.set (off+k) d) (off+i)) k=vf (fun i=> dx o (off+i)) k:=vf_congr fun i hi'=> by rw[dx_set hi,if_neg (by omega)]
    have h2:=h.diff
    simp only[vf]
    rw[h1,dx_set hi,if_pos rfl,Nat.pow_succ]
    have h3:(d+bw+dx v k * b) * Bs ^ k=(dx us (off+k)+bw' * Bs) * Bs ^ k:=by rw[he]
    grind
  · rw[dx_set hi,if_neg (by omega)]
    exact h.same j (by omega)
/-- The borrow of one limb. -/
theorem sb_pos {z bw p:Nat}(h:bw+p≤z) (hz:z < Bs):z - bw - p < Bs∧(z - bw - p)+bw+p=z+0 * Bs:=by omega
theorem sb_neg {z bw x b:Nat}(hz:z < Bs) (hw:bw < Bs) (hx:x < Bs) (hb:b < Bs) (h:z < bw+x * b) :
    (bw+x * b - z+Bs - 1) / Bs < Bs∧z+((bw+x * b - z+Bs - 1) / Bs) * Bs - (bw+x * b) < Bs ∧
    (z+((bw+x * b - z+Bs - 1) / Bs) * Bs - (bw+x * b))+bw+x * b=z+((bw+x * b - z+Bs - 1) / Bs) * Bs:=by
  have hp:x * b≤(Bs - 1) * (Bs - 1):=Nat.mul_le_mul (by omega) (by omega)
  generalize x * b=p at *
  have h1:=Nat.mod_add_div (bw+p - z+Bs - 1) Bs
  have h2:=Nat.mod_lt (bw+p - z+Bs - 1) Bs_pos
  have h3:(bw+p - z+Bs - 1) / Bs < Bs:=by
    rw[Nat.div_lt_iff_lt_mul Bs_pos]
    rw[Bs_eq] at *
    omega
  rw[Bs_eq] at *
  omega

theorem sb_cast {z bw x b:Nat}(h:(z:Int) - (bw:Int) - (x:Int) * (b:Int) < 0):(((bw+x * b - z+Bs - 1) / Bs:Nat):Int)=(-((z:Int) - (bw:Int) - (x:Int) * (b:Int))+1000000000 - 1) / 1000000000:=by
  rw[← Int.natCast_mul] at *
  rw[Bs_eq]
  generalize x * b=p at *
  omega
theorem sb_cast2 {z bw x b q:Nat}(h:bw+x * b≤z+q * Bs):((z+q * Bs - (bw+x * b):Nat):Int)=(z:Int) - (bw:Int) - (x:Int) * (b:Int)+(q:Int) * 1000000000:=by
  rw[← Int.natCast_mul]
  rw[Bs_eq] at *
  generalize x * b=p at *
  omega
theorem sb_cast3 {z bw x b:Nat}(h:¬ (z:Int) - (bw:Int) - (x:Int) * (b:Int) < 0):bw+x * b≤z∧((z - bw - x * b:Nat):Int)=(z:Int) - (bw:Int) - (x:Int) * (b:Int):=by
  rw[← Int.natCast_mul] at *
  generalize x * b=p at *
  omega
theorem sb_lt {z bw x b:Nat}(h:(z:Int) - (bw:Int) - (x:Int) * (b:Int) < 0):z < bw+x * b:=by
  rw[← Int.natCast_mul] at h
  generalize x * b=p at *
  omega
theorem SbRel.stop {us v o:List Nat}{off b n bw d r:Nat}(h:SbRel us v off b n bw o) (hv:v.length=n) (hk:off+n < us.length) (he:d+bw=dx us (off+n)+r * Bs) :
    vf (fun i=> dx (o.set (off+n) d) (off+i)) (n+1)+b * val v=vf (fun i=> dx us (off+i)) (n+1)+r * Bs ^ (n+1):=by
  have hi:off+n < o.length:=by rw[h.len];exact hk
  have h1:vf (fun i=> dx (o.set (off+n) d) (off+i)) n=vf (fun i=> dx o (off+i)) n:=vf_congr fun i hi'=> by rw[dx_set hi,if_neg (by omega)]
  have h2:=h.diff
  rw[val_vf (by omega)] at h2
  simp only[vf]
  rw[h1,dx_set hi,if_pos rfl,Nat.pow_succ]
  have h3:(d+bw) * Bs ^ n=(dx us (off+n)+r * Bs) * Bs ^ n:=by rw[he]
  rw[Nat.add_mul,Nat.add_mul] at h3
  have h4:r * (Bs ^ n * Bs)=r * Bs * Bs ^ n:=by rw[Nat.mul_comm (Bs ^ n) Bs,Nat.mul_assoc]
  omega

def SubPost (T:TypeId) (w:World) (g off n b:Nat) (us v:List Nat) (e:Ending) (w':World):Prop :=
  ∃ (r : Nat) (o : List Nat), e = .returned (.int .i64 (r : Int)) ∧ r ≤ 1 ∧ Ow T w' g (ints o) ∧ o.length = us.length ∧ Digs o ∧
      vf (fun i=> dx o (off+i)) (n+1)+b * val v=vf (fun i=> dx us (off+i)) (n+1)+r * Bs ^ (n+1)∧(∀ j,(j < off∨off+n < j)→dx o j=dx us j)∧Og g w w'

set_option maxRecDepth 100000 in
set_option maxHeartbeats 8000000 in
theorem subtract_any (w:World) {g off c g2 n d b:Nat}{us v:List Nat}(hO:Ow 3 w g (ints us)) (hV:Ow 3 w g2 (ints v)) (hne:g2≠g) (hdu:Digs us) (hdv:Digs v) (hn:v.length=n) (hoff:off+(n+1)≤us.length)
    (hs:us.length≤2097152) (hb:b < 1000000000) :
    Calls Tryz.prog 174 #[.slice (some ⟨g,off,none⟩) (n+1) c,.slice (some ⟨g2,0,none⟩) n d,.int .i64 (b:Int)] w (SubPost 3 w g off n b us v):=by
  have hn:=Lib.hid hn;rename_i hno
  have hnb:n≤2097152:=by omega
  clear hno
  go_enter Tryz.func174,Tryz.ntmps174
  go_wp2_with fail
  go_loopw [7,14] (fun cv i wr=> ∃ (k bw:Nat) (o:List Nat),k≤n∧i=.int .i64 (k:Int)∧cv=.int .i64 (bw:Int)∧SbRel us v off b k bw o∧Ow 3 wr g (ints o)∧Og g w wr) (fun _ i _=> n - (intOf i).toNat)
  case atStart=> exact⟨0,0,us,Nat.zero_le _,rfl,rfl,SbRel.start off b hdu,hO,Og.refl _ _⟩
  case round =>
    clear hO
    obtain⟨k,bw,o,hk,rfl,rfl,hrel,hO,hog⟩:=hrel
    by_cases hkn:k < n
    · have hki:(k:Int) < (n:Int):=by omega
      have hki1:(k:Int) < (n:Int)+1:=by omega
      have hcell:=hO.cell (k:=off+k) (by rw[ints_len,hrel.len];omega)
      rw[ix_ints,hrel.same _ (.inr (Nat.le_refl _))] at hcell
      have hfr:=hO.frozen (off+k)
      have hV1:=(hV.og hne hog).cell (k:=k) (by rw[ints_len,hn.out];exact hkn)
      rw[ix_ints] at hV1
      have bx:=dx_lt hdv k
      have bz:=dx_lt hdu (off+k)
      have hw:=hrel.small
      have hst:=fun d' bw' h1 h2 h3=> hrel.step (d:=d') (bw':=bw') (by omega) h1 h2 h3
      have hsp:=fun h=> sb_pos (z:=dx us (off+k)) (bw:=bw) (p:=dx v k * b) h bz
      have hsn:=fun h=> sb_neg (z:=dx us (off+k)) (bw:=bw) (x:=dx v k) (b:=b) bz hw bx (by rw[Bs_eq];exact hb) h
      rw[Bs_eq] at bx bz hw
      generalize dx v k=x at *
      generalize dx us (off+k)=z at *
      have hxy0:(0:Int)≤(x:Int) * (b:Int):=by exact_mod_cast Nat.zero_le (x * b)
      have hxyn:((x * b:Nat):Int)=(x:Int) * (b:Int):=Int.natCast_mul _ _
      have hxy:(x:Int) * (b:Int)≤999999998000000001:=by
        have:x * b≤999999999 * 999999999:=Nat.mul_le_mul (by omega) (by omega)
        have h2:((x * b:Nat):Int)≤999999998000000001:=by omega
        rwa [Int.natCast_mul] at h2
      have hxyn:=Lib.hid hxyn;rename_i hxo;clear hxo
      have hsp:=Lib.hid hsp;rename_i hspo;clear hspo
      have hsn:=Lib.hid hsn;rename_i hsno;clear hsno
      have hst:=Lib.hid hst;rename_i hsto;clear hsto
      by_cases hneg:(z:Int) - (bw:Int) - (x:Int) * (b:Int) < 0
      · have hlt:=sb_lt hneg
        obtain⟨q1,q2,q3⟩:=hsn.out hlt
        have hs1:=hst.out _ _ q2 q1 q3
        have e1:=sb_cast hneg
        have e2:=sb_cast2 (z:=z) (bw:=bw) (x:=x) (b:=b) (q:=(bw+x * b - z+Bs - 1) / Bs) (by omega)
        rw[e1] at e2
        have hO1:=hO.set (off+k) ((z+((bw+x * b - z+Bs - 1) / Bs) * Bs - (bw+x * b):Nat):Int)
        rw[← ints_set,e2] at hO1
        have e1:=Lib.hid e1;rename_i e1o;clear e1o e2 q1 q2 q3 hlt
        have hs1:=Lib.hid hs1;rename_i hs1o;clear hs1o
        go_wp2_with fail
        go_roundw
        case rel=> exact⟨k+1,_,_,by omega,by go_num,by rw[e1.out],hs1.out,hO1,hog.set _ _⟩
        case measure=> simp[intOf];omega
      · obtain⟨hle,e2⟩:=sb_cast3 hneg
        obtain⟨q1,q2⟩:=hsp.out hle
        have hs1:=hst.out _ 0 q1 Bs_pos q2
        have hO1:=hO.set (off+k) ((z - bw - x * b:Nat):Int)
        rw[← ints_set,e2] at hO1
        clear e2 hle q1 q2
        go_wp2_with fail
        go_roundw
        case rel=> exact⟨k+1,0,_,by omega,by go_num,rfl,hs1,hO1,hog.set _ _⟩
        case measure=> simp[intOf];omega
    · obtain rfl:k=n:=by omega
      have hcell:=hO.cell (k:=off+k) (by rw[ints_len,hrel.len];omega)
      rw[ix_ints,hrel.same _ (.inr (Nat.le_refl _))] at hcell
      have hfr:=hO.frozen (off+k)
      have bz:=dx_lt hdu (off+k)
      have hw:=hrel.small
      have hki1:(k:Int) < (k:Int)+1:=by omega
      have hst:=fun d r h=> hrel.stop (d:=d) (r:=r) hn.out (by omega) h
      have hsm:=fun d=> digs_set hrel.digs (v:=d)
      have hfar:∀ d j,(j < off∨off+k < j)→dx (o.set (off+k) d) j=dx us j:=fun d j hj=> by
        rw[dx_set (by rw[hrel.len];omega),if_neg (by omega)]
        exact hrel.same j (by omega)
      have hlo:=hrel.len
      rw[Bs_eq] at bz hw
      generalize dx us (off+k)=z at *
      have hst:=Lib.hid hst;rename_i hsto;clear hsto
      have hsm:=Lib.hid hsm;rename_i hsmo;clear hsmo
      have hfar:=Lib.hid hfar;rename_i hfaro;clear hfaro
      have hlo:=Lib.hid hlo;rename_i hloo;clear hloo
      by_cases hneg:(z:Int) - (bw:Int) < 0
      · have hd:((z+Bs - bw:Nat):Int)=(z:Int) - (bw:Int)+1000000000:=by rw[Bs_eq];omega
        have hO1:=(hO.set (off+k) ((z:Int) - (bw:Int))).set (off+k) ((z:Int) - (bw:Int)+1000000000)
        rw[List.set_set,show (ints o).set (off+k) ((z:Int) - (bw:Int)+1000000000)=ints (o.set (off+k) (z+Bs - bw)) from by rw[ints_set,hd]] at hO1
        have h1:=Lib.hid (hst.out (z+Bs - bw) 1 (by rw[Bs_eq];omega))
        have h2:=Lib.hid (hsm.out (z+Bs - bw) (by rw[Bs_eq];omega) (off+k))
        clear hd
        go_wp2_with fail
        go_ret
        exact⟨1,_,rfl,by omega,hO1,by rw[List.length_set];exact hlo.out,h2.out,h1.out,hfar.out _,(hog.set _ _).set _ _⟩
      · have hd:((z - bw:Nat):Int)=(z:Int) - (bw:Int):=by omega
        have hO1:=hO.set (off+k) ((z:Int) - (bw:Int))
        rw[show (ints o).set (off+k) ((z:Int) - (bw:Int))=ints (o.set (off+k) (z - bw)) from by rw[ints_set,hd]] at hO1
        have h1:=Lib.hid (hst.out (z - bw) 0 (by omega))
        have h2:=Lib.hid (hsm.out (z - bw) (by rw[Bs_eq];omega) (off+k))
        clear hd
        go_wp2_with fail
        go_ret
        exact⟨0,_,rfl,by omega,hO1,by rw[List.length_set];exact hlo.out,h2.out,h1.out,hfar.out _,hog.set _ _⟩



/-- What holds behind k rounds of adding v back to the limbs of u from 'off' on. -/
structure AbRel (us v:List Nat) (off k c:Nat) (o:List Nat):Prop where
  len:o.length=us.length
  digs:Digs o
  small:c≤1
  sum:vf (fun i=> dx o (off+i)) k+c * Bs ^ k=vf (fun i=> dx us (off+i)) k+vf (dx v) k
  same:∀ j,(j < off∨off+k≤j)→dx o j=dx us j
theorem AbRel.start {us v:List Nat}(off:Nat) (h:Digs us):AbRel us v off 0 0 us:=⟨rfl,h,by omega,by simp[vf],fun _ _=> rfl⟩
theorem AbRel.step {us v o:List Nat}{off k c:Nat}(h:AbRel us v off k c o) (hu:Digs us) (hv:Digs v) (hk:off+k < us.length) :
    AbRel us v off (k+1) ((dx us (off+k)+c+dx v k) / Bs) (o.set (off+k) ((dx us (off+k)+c+dx v k) % Bs)):=by
  have hi:off+k < o.length:=by rw[h.len];exact hk
  refine⟨by rw[List.length_set];exact h.len,digs_set h.digs (Nat.mod_lt _ Bs_pos) _,add_bound (dx_lt hu _) (dx_lt hv _) h.small,?_,fun j hj=> ?_⟩
  · have h1:vf (fun i=> dx (o.set (off+k) ((dx us (off+k)+c+dx v k) % Bs)) (off+i)) k=vf (fun i=> dx o (off+i)) k:=vf_congr fun i hi'=> by rw[dx_set hi,if_neg (by omega)]
    have h2:=h.sum
    have h3:=Nat.mod_add_div (dx us (off+k)+c+dx v k) Bs
    simp only[vf]
    rw[h1,dx_set hi,if_pos rfl,Nat.pow_succ]
    generalize (dx us (off+k)+c+dx v k) % Bs=s at *
    generalize (dx us (off+k)+c+dx v k) / Bs=q at *
    have h4:(s+Bs * q) * Bs ^ k=(dx us (off+k)+c+dx v k) * Bs ^ k:=by rw[h3]
    rw[Nat.add_mul,Nat.add_mul,Nat.add_mul] at h4
    have h5:q * (Bs ^ k * Bs)=Bs * q * Bs ^ k:=by rw[Nat.mul_comm (Bs ^ k) Bs,← Nat.mul_assoc,Nat.mul_comm q Bs]
    omega
  · rw[dx_set hi,if_neg (by omega)]
    exact h.same j (by omega)

set_option maxRecDepth 100000 in
set_option maxHeartbeats 4000000 in
theorem addBack_any (w:World) {g off c g2 n d:Nat}{us v:List Nat}(hO:Ow 3 w g (ints us)) (hV:Ow 3 w g2 (ints v)) (hne:g2≠g) (hdu:Digs us) (hdv:Digs v) (hn:v.length=n) (hoff:off+(n+1)≤us.length)
    (hs:us.length≤2097152) :
    Calls Tryz.prog 175 #[.slice (some ⟨g, off, none⟩) (n + 1) c, .slice (some ⟨g2, 0, none⟩) n d] w fun e w' => e = .returned (.tuple #[]) ∧ ∃ (o : List Nat) (c1 : Nat), Ow 3 w' g (ints o) ∧ o.length = us.length ∧ Digs o ∧
      vf (fun i=> dx o (off+i)) (n+1)+c1 * Bs ^ (n+1)=vf (fun i=> dx us (off+i)) (n+1)+val v∧(∀ j,(j < off∨off+n < j)→dx o j=dx us j)∧Og g w w':=by
  have hn:=Lib.hid hn;rename_i hno
  have hnb:n≤2097152:=by omega
  clear hno
  go_enter Tryz.func175,Tryz.ntmps175
  go_wp2_with fail
  go_loopw [4,9] (fun cv i wr=> ∃ (k c1:Nat) (o:List Nat),k≤n+1∧i=.int .i64 (k:Int)∧cv=.int .i64 (c1:Int)∧AbRel us v off k c1 o∧Ow 3 wr g (ints o)∧Og g w wr) (fun _ i _=> n+1 - (intOf i).toNat)
  case atStart=> exact⟨0,0,us,Nat.zero_le _,rfl,rfl,AbRel.start off hdu,hO,Og.refl _ _⟩
  case round =>
    clear hO
    obtain⟨k,c1,o,hk,rfl,rfl,hrel,hO,hog⟩:=hrel
    by_cases hkn:k < n+1
    · have hki:(k:Int) < (n:Int)+1:=by omega
      have hcell:=hO.cell (k:=off+k) (by rw[ints_len,hrel.len];omega)
      rw[ix_ints,hrel.same _ (.inr (Nat.le_refl _))] at hcell
      have hfr:=hO.frozen (off+k)
      have bx:=dx_lt hdv k
      have bz:=dx_lt hdu (off+k)
      rw[Bs_eq] at bx bz
      have hc1:=hrel.small
      have hst:=hrel.step hdu hdv (by omega)
      have hO1:=hO.set (off+k) (((dx us (off+k)+c1+dx v k) % Bs:Nat):Int)
      rw[← ints_set] at hO1
      by_cases hkm:k < n
      · have hkj:(k:Int) < (n:Int):=by omega
        have hV1:=(hV.og hne hog).cell (k:=k) (by rw[ints_len,hn.out];exact hkm)
        rw[ix_ints] at hV1
        generalize dx v k=x at *
        generalize dx us (off+k)=z at *
        have e1:((((z+c1+x) % Bs:Nat):Int))=((z:Int)+(c1:Int)+(x:Int)) % 1000000000:=by rw[Bs_eq];omega
        have e2:((((z+c1+x) / Bs:Nat):Int))=((z:Int)+(c1:Int)+(x:Int)) / 1000000000:=by rw[Bs_eq];omega
        rw[e1] at hO1
        have e2:=Lib.hid e2;rename_i e2o;clear e2o e1
        go_wp2_with fail
        go_roundw
        case rel=> exact⟨k+1,_,_,by omega,by go_num,by rw[e2.out],hst,hO1,hog.set _ _⟩
        case measure=> simp[intOf];omega
      · have hz:dx v k=0:=dx_beyond (by rw[hn.out];omega)
        have hkj:¬ (k:Int) < (n:Int):=by omega
        simp only[hz,Nat.add_zero] at hst hO1
        clear hz bx
        generalize dx us (off+k)=z at *
        have e1:((((z+c1) % Bs:Nat):Int))=((z:Int)+(c1:Int)) % 1000000000:=by rw[Bs_eq];omega
        have e2:((((z+c1) / Bs:Nat):Int))=((z:Int)+(c1:Int)) / 1000000000:=by rw[Bs_eq];omega
        rw[e1] at hO1
        have e2:=Lib.hid e2;rename_i e2o;clear e2o e1
        go_wp2_with fail
        go_roundw
        case rel=> exact⟨k+1,_,_,by omega,by go_num,by rw[e2.out],hst,hO1,hog.set _ _⟩
        case measure=> simp[intOf];omega
    · obtain rfl:k=n+1:=by omega
      have hsum:=hrel.sum
      rw[val_vf (l:=v) (by rw[hn.out];omega)] at hsum
      have hsum:=Lib.hid hsum;rename_i hsumo;clear hsumo
      have hl:=Lib.hid hrel.len
      have hdg:=hrel.digs
      have hfar:Hid (∀ j,(j < off∨off+n < j)→dx o j=dx us j):=fun j hj=> hrel.same j (by omega)
      clear hrel
      go_wp2_with fail
      go_end0
      exact⟨rfl,o,c1,hO,hl.out,hdg,hsum.out,hfar.out,hog⟩
end

section
section
variable {f:Nat→Nat}{v:List Nat}{p q rest:Nat}
theorem kq_start (hf:∀ i,f i < Bs) (hv:v.length=p+2) (hv1:0 < dx v (p+1)) (hW:vf f (p+3) < Bs * val v) (hV:0 < val v) :
    vf f (p+3) / val v≤min (Bs - 1) ((f (p+2) * Bs+f (p+1)) / dx v (p+1)):=by
  have e1:=vf_top2 f p
  have e2:val v=_:=(val_vf (l:=v) (k:=p+2) (by omega)).symm.trans (vf_top1 (dx v) p)
  have hlo:=vf_lt (f:=f) (k:=p) fun i _=> hf i
  have h1:=Nat.div_mul_le_self (vf f (p+3)) (val v)
  have h2:vf f (p+3) / val v < Bs:=by rw[Nat.div_lt_iff_lt_mul hV];exact hW
  generalize vf f (p+3) / val v=t at *
  rw[e1,e2] at h1
  have h3:=kn_init (hf p) hlo h1
  exact Nat.le_min.2 ⟨by omega,(Nat.le_div_iff_mul_le hv1).2 h3⟩
theorem kq_step (hf:∀ i,f i < Bs) (hv:v.length=p+2) (hV:0 < val v) (hr:rest+q * dx v (p+1)=f (p+2) * Bs+f (p+1)) (h:rest * Bs+f p < q * dx v p) :
    0 < q∧vf f (p+3) / val v≤q - 1∧rest+dx v (p+1)+(q - 1) * dx v (p+1)=f (p+2) * Bs+f (p+1):=by
  have e1:=vf_top2 f p
  have e2:val v=_:=(val_vf (l:=v) (k:=p+2) (by omega)).symm.trans (vf_top1 (dx v) p)
  have hlo:=vf_lt (f:=f) (k:=p) fun i _=> hf i
  have hq:0 < q:=by
    rcases Nat.eq_zero_or_pos q with h0 | h0
    · rw[h0] at h;omega
    · exact h0
  have h1:=kn_step (Vl:=vf (dx v) p) hr hlo h
  rw[← e1,← e2] at h1
  have h2:vf f (p+3) / val v < q:=by rw[Nat.div_lt_iff_lt_mul hV];exact h1
  refine⟨hq,by omega,?_⟩
  obtain⟨r,rfl⟩:∃ r,q=r+1:=⟨q - 1,by omega⟩
  rw[Nat.add_sub_cancel,← hr,Nat.add_mul]
  omega
theorem kq_exit (hq:q < Bs) (hd:Digs v) (hv:v.length=p+2) (hv1:0 < dx v (p+1)) (hV:0 < val v) (hr:rest+q * dx v (p+1)=f (p+2) * Bs+f (p+1)) (h:Bs≤rest∨q * dx v p≤rest * Bs+f p) :
    q≤vf f (p+3) / val v+1:=by
  have e1:=vf_top2 f p
  have e2:val v=_:=(val_vf (l:=v) (k:=p+2) (by omega)).symm.trans (vf_top1 (dx v) p)
  have hvl:=vf_lt (f:=dx v) (k:=p) fun i _=> dx_lt hd i
  have h1:q * val v≤vf f (p+3)+val v:=by
    rw[e1,e2]
    rcases h with h | h
    · exact kn_exit2 hq hr (dx_lt hd p) hvl h
    · exact kn_exit1 hq hr hv1 hvl h
  rw[← Nat.add_div_right _ hV,Nat.le_div_iff_mul_le hV]
  exact h1
end
/-- The divisor scaled by Bs / (its last limb + 1). -/
theorem kv_by {M p t:Nat}(hM:(dig M).length=p+1) (ht:t=dx (dig M) p):0 < t∧0 < Bs / (t+1)∧Bs / (t+1) < Bs∧(Bs / (t+1)) * M < Bs ^ (p+1):=by
  have h0:=canon_last (canon_dig M) (by intro h;rw[h] at hM;simp at hM)
  rw[hM,Nat.add_sub_cancel,← ht] at h0
  have h1:=dx_lt (digs_dig M) p
  rw[← ht] at h1
  have hle:=Nat.div_mul_le_self Bs (t+1)
  have hpos:0 < Bs / (t+1):=Nat.div_pos (by omega) (by omega)
  have hlt:Bs / (t+1) < Bs:=Nat.div_lt_self Bs_pos (by omega)
  refine⟨by omega,hpos,hlt,?_⟩
  have hMv:M=vf (dx (dig M)) (p+1):=by rw[val_vf (by omega),val_dig]
  have hlow:=vf_lt (f:=dx (dig M)) (k:=p) fun i _=> dx_lt (digs_dig M) i
  have hM2:M < (t+1) * Bs ^ p:=by
    rw[Nat.add_mul,ht]
    simp only[vf] at hMv
    omega
  have h3:Bs / (t+1) * M < Bs / (t+1) * ((t+1) * Bs ^ p):=Nat.mul_lt_mul_of_pos_left hM2 hpos
  have h4:Bs / (t+1) * (t+1) * Bs ^ p≤Bs * Bs ^ p:=Nat.mul_le_mul_right _ hle
  rw[Nat.mul_assoc] at h4
  rw[Nat.pow_succ,Nat.mul_comm (Bs ^ p)]
  omega
/-- The last limb of the scaled divisor is not 0. -/
theorem kv_top {b M p:Nat}{v:List Nat}(hv:v.length=p+1) (hd:Digs v) (hval:val v=b * M) (hb:0 < b) (hM:(dig M).length=p+1):0 < dx v p:=by
  rcases Nat.eq_zero_or_pos (dx v p) with h0 | h0
  · have h1:=canon_lower (canon_dig M) (by intro h;rw[h] at hM;simp at hM)
    rw[hM,Nat.add_sub_cancel,val_dig] at h1
    have h2:vf (dx v) (p+1)=val v:=val_vf (by omega)
    simp only[vf] at h2
    rw[h0] at h2
    have h3:=vf_lt (f:=dx v) (k:=p) fun i _=> dx_lt hd i
    have h4:=Nat.mul_le_mul_right M hb
    omega
  · exact h0
end

section
open Go.RowKit

def DivPost (T:TypeId) (w:World) (N M:Nat) (e:Ending) (w':World):Prop :=
  ∃ A1 n1 c1 A2 n2 c2,e=.returned (.tuple #[.slice A1 n1 c1,.slice A2 n2 c2])∧OwI T w.heap.size w' A1 n1 c1 (ints (dig (N / M)))∧OwI T w.heap.size w' A2 n2 c2 (ints (dig (N % M)))∧Bl w w'

theorem OwI.mono0 {T:TypeId}{w:World}{b0 b1:Nat}{A:Option Addr}{n c:Nat}{l:List Int}(h:OwI T b1 w A n c l) (hb:b0≤b1):OwI T b0 w A n c l :=
  ⟨h.1,h.2.imp id fun ⟨g,cs,e,hg,r⟩ =>⟨g,cs,e,by omega,r⟩⟩

theorem dig_one {M:Nat}(h:(dig M).length=1):dx (dig M) 0=M∧M < 1000000000∧0 < M:=by
  have h1:vf (dx (dig M)) 1=M:=by rw[val_vf (by omega),val_dig]
  simp only[vf,Nat.pow_zero,Nat.mul_one,Nat.zero_add] at h1
  have h2:=dx_lt (digs_dig M) 0
  have h3:=dig_len_pos (n:=M)
  rw[Bs_eq] at h2
  omega

set_option maxRecDepth 100000 in
set_option maxHeartbeats 8000000 in
theorem natDiv_less (w:World) {A B:Option Addr}{n m c d N M:Nat}(ha:IsN w A n c N) (hb:IsN w B m d M) (hn:n≤1048576) (hm:m≤1048576) (hlt:N < M) :
    Calls Tryz.prog 164 #[.slice A n c,.slice B m d] w (DivPost 3 w N M):=by
  have hq:Hid (N / M=0∧N % M=N):=⟨Nat.div_eq_of_lt hlt,Nat.mod_eq_of_lt hlt⟩
  have hc:cmpI N M=-1:=cmpI_lt (by omega)
  clear hlt
  go_enter Tryz.func164,Tryz.ntmps164
  go_wp2_with fail
  refine(natCmp_any _ ha hb (by omega) (by omega)).mono ?_
  rw[hc]
  rintro e w1 ⟨rfl,q,rfl⟩
  go_wp2_with fail
  refine(Clone_any _ ((ha.drewN q).alloc _) hn).mono ?_
  rintro e w2 ⟨A',n',c',rfl,hO,hb2⟩
  have hO2:OwI 3 w.heap.size w2 A' n' c' (ints (dig N)):=hO.mono0 (by simp)
  have hb2:Bl w w2:=Bl.next (((Bl.refl w).drewN q).alloc _) hb2
  go_wp2_with fail
  go_ret2
  exact⟨_,0,0,_,_,_,rfl,by rw[hq.out.1,dig_zero];exact OwI.nil _ _ _ _,by rw[hq.out.2];exact hO2,hb2⟩

set_option maxRecDepth 100000 in
set_option maxHeartbeats 8000000 in
theorem natDiv_one (w:World) {A B:Option Addr}{n c d N M:Nat}(ha:IsN w A n c N) (hb:IsN w B 1 d M) (hn:n≤1048576) (hle:M≤N) :
    Calls Tryz.prog 164 #[.slice A n c,.slice B 1 d] w (DivPost 3 w N M):=by
  obtain⟨h0,hM,hM0⟩:=dig_one hb.lenN
  have hc:0≤cmpI N M:=by unfold cmpI;split <;> (try split) <;> omega
  clear hle
  generalize hcc:cmpI N M=cc at hc
  obtain⟨bd,rfl,hltb,hcb⟩:=hb.atN (k:=0) (by omega)
  rw[h0] at hcb
  have hcb:w.cell? bd=some (.int .i64 (M:Int)):=by rw[← hcb,Addr.add_zero']
  clear h0
  go_enter Tryz.func164,Tryz.ntmps164
  go_wp2_with fail
  refine(natCmp_any _ ha hb (by omega) (by omega)).mono ?_
  rw[hcc]
  rintro e w1 ⟨rfl,q,rfl⟩
  clear hcc
  go_wp2_with fail
  refine(divSmall_any _ (ha.drewN q) hn hM0 hM).mono ?_
  rintro e w2 ⟨A',n',c',rfl,hO,hb2⟩
  have hO2:OwI 3 w.heap.size w2 A' n' c' (ints (dig (N / M))):=hO.mono0 (by simp)
  have hb2:Bl w w2:=Bl.next ((Bl.refl w).drewN q) hb2
  have hr0:=Nat.mod_lt N hM0
  generalize hrr:N % M=r at *
  go_wp2_with fail
  refine(natOf_any _ r (by omega)).mono ?_
  rintro e w3 ⟨A2,n2,c2,rfl,hO3,hb3⟩
  go_wp2_with fail
  go_ret2
  exact⟨_,_,_,_,_,_,rfl,hO2.bl hb3,by rw[hrr];exact hO3.mono0 hb2.size,hb2.next hb3⟩
end

end Go.Proofs.YtjaapemopbbfaaaGreat
