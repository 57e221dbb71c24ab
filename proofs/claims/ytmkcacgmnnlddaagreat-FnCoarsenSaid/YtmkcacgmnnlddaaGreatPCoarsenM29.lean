/- Lemmas. -/
import Derived.Test.YtmkcacgmnnlddaaGreatRows
import Derived.Test.YtmkcacgmnnlddaaGreatPCoarsenM28
namespace Go.Proofs.YtmkcacgmnnlddaaGreat
section
open Go.RowKit

def hasP (t:TriD) (p:Int):Bool:=decide (t.a=p) || (decide (t.b=p) || decide (t.c=p))
/-- The triangles at a point, among the first k. -/
def atTo (ts:List TriD) (p:Int) (k:Nat):List Int:=((List.range k).filter fun i=> hasP (pix ts i) p).map fun i:Nat =>(i:Int)
def atA (ts:List TriD) (p:Int):List Int:=atTo ts p ts.length
theorem atTo_yes {ts:List TriD}{p:Int}{k:Nat}(h:hasP (pix ts k) p=true):atTo ts p (k+1)=atTo ts p k ++ [(k:Int)]:=by
  unfold atTo
  rw[List.range_succ,List.filter_append,List.map_append]
  simp[h]
theorem atTo_no {ts:List TriD}{p:Int}{k:Nat}(h:hasP (pix ts k) p=false):atTo ts p (k+1)=atTo ts p k:=by
  unfold atTo
  rw[List.range_succ,List.filter_append,List.map_append]
  simp[h]
theorem atTo_len (ts:List TriD) (p:Int) (k:Nat):(atTo ts p k).length≤k:=by
  unfold atTo
  rw[List.length_map]
  exact Nat.le_trans (List.length_filter_le _ _) (by simp)
theorem atTo_mem {ts:List TriD}{p:Int}{k:Nat}{x:Int}(h:x ∈ atTo ts p k):0≤x∧x < k:=by
  unfold atTo at h
  obtain⟨i,hi,rfl⟩:=List.mem_map.1 h
  have:=List.mem_range.1 (List.mem_filter.1 hi).1
  omega
/-- The triangle that was bisected into s and t. -/
def prT (s t:TriD):TriD:=⟨s.b,s.c,t.b,s.region,s.level - 1⟩
def prB (m:MeQ) (k l:Int):Bool :=
  decide (l = k + 1) && (decide (0 < (pix m.tris k.toNat).level) && (decide (hvA (prT (pix m.tris k.toNat) (pix m.tris l.toNat)) (pix m.tris k.toNat).a = pix m.tris k.toNat) && (decide (hvB (prT (pix m.tris k.toNat) (pix m.tris l.toNat)) (pix m.tris k.toNat).a = pix m.tris l.toNat) &&
    decide (midQ (mc m (pix m.tris k.toNat).c) (mc m (pix m.tris l.toNat).b)=mc m (pix m.tris k.toNat).a))))
/-- Are the first k pairs of a list results of bisections? -/
def prsB (m:MeQ) (l:List Int):Nat→Bool
  | 0=> true
  | k+1=> prsB m l k && prB m (ix l (2 * k)) (ix l (2 * k+1))
def remB (m:MeQ) (p:Int):Bool :=
  (decide ((atA m.tris p).length=2) || decide ((atA m.tris p).length=4)) && (((atA m.tris p).all fun k=> decide ((pix m.tris k.toNat).a=p)) && prsB m (atA m.tris p) ((atA m.tris p).length / 2))
def lwI (i p:Int):Int:=if p < i then i - 1 else i
def lwT (t:TriD) (p:Int):TriD:=⟨lwI t.a p,lwI t.b p,lwI t.c p,t.region,t.level⟩
/-- The triangles behind the removal of a point; is the next one at the point the first of a pair? -/
def rvS (ts:List TriD) (p:Int) (k:Nat):List TriD × Bool→List TriD × Bool
  | (o,f)=> if (pix ts k).a=p then (if f=true then (o ++ [lwT (prT (pix ts k) (pix ts (k+1))) p],false) else (o,true)) else (o ++ [lwT (pix ts k) p],f)
def rvTo (ts:List TriD) (p:Int):Nat→List TriD × Bool
  | 0 =>([],true)
  | k+1=> rvS ts p k (rvTo ts p k)
theorem rvS_eq (ts:List TriD) (p:Int) (k:Nat):∀ x,rvS ts p k x=if (pix ts k).a=p then (if x.2=true then (x.1 ++ [lwT (prT (pix ts k) (pix ts (k+1))) p],false) else (x.1,true)) else (x.1 ++ [lwT (pix ts k) p],x.2)
  | (_,_)=> rfl
theorem rvS_len (ts:List TriD) (p:Int) (k:Nat) (x:List TriD × Bool):(rvS ts p k x).1.length≤x.1.length+1:=by
  rw[rvS_eq]
  split
  · split
    · simp
    · exact Nat.le_succ _
  · simp
theorem rvTo_len (ts:List TriD) (p:Int):∀ k,(rvTo ts p k).1.length≤k
  | 0=> Nat.le_refl _
  | k+1=> Nat.le_trans (rvS_len ts p k _) (Nat.succ_le_succ (rvTo_len ts p k))
theorem rvTo_far {ts:List TriD}{p:Int}{k:Nat}(h:(pix ts k).a≠p):rvTo ts p (k+1)=((rvTo ts p k).1 ++ [lwT (pix ts k) p],(rvTo ts p k).2):=by
  show rvS ts p k (rvTo ts p k)=_
  rw[rvS_eq]
  rw[if_neg h]
theorem rvTo_one {ts:List TriD}{p:Int}{k:Nat}(h:(pix ts k).a=p) (hf:(rvTo ts p k).2=true):rvTo ts p (k+1)=((rvTo ts p k).1 ++ [lwT (prT (pix ts k) (pix ts (k+1))) p],false):=by
  show rvS ts p k (rvTo ts p k)=_
  rw[rvS_eq]
  rw[if_pos h,if_pos hf]
theorem rvTo_two {ts:List TriD}{p:Int}{k:Nat}(h:(pix ts k).a=p) (hf:(rvTo ts p k).2=false):rvTo ts p (k+1)=((rvTo ts p k).1,true):=by
  show rvS ts p k (rvTo ts p k)=_
  rw[rvS_eq]
  rw[if_pos h,if_neg (by rw[hf];decide)]
def rmM (m:MeQ) (p:Int):MeQ:=⟨m.pts.eraseIdx p.toNat,(rvTo m.tris p m.tris.length).1⟩
/-- Wherever the first of a pair stands, another triangle stands behind it. -/
def rvC (m:MeQ) (p:Int):Bool:=(List.range m.tris.length).all fun k=> !(decide ((pix m.tris k).a=p) && (rvTo m.tris p k).2) || decide (k+1 < m.tris.length)
theorem rvC_at {m:MeQ}{p:Int}(h:rvC m p=true) {k:Nat}(hk:k < m.tris.length) (ha:(pix m.tris k).a=p) (hf:(rvTo m.tris p k).2=true):k+1 < m.tris.length:=by
  have h1:=List.all_eq_true.1 h k (List.mem_range.2 hk)
  simpa [ha,hf] using h1
def crS (x:MeQ × Nat) (p:Int):MeQ × Nat:=if remB x.1 p=true then (rmM x.1 p,x.2+1) else x
def okS (m:MeQ) (p:Int):Bool:=(decide (0≤p) && decide (p < m.pts.length)) && (!remB m p || (okF (rmM m p) && rvC m p))
def crC:MeQ × Nat→List Int→Bool
  | _,[]=> true
  | x,p :: ps=> okS x.1 p && crC (crS x p) ps
def crL (m:MeQ) (l:List Int):List Int:=(lsA (mkA l m.pts.length)).reverse
/-- CoarsenMesh: the mesh, and how many points were removed. -/
def crA (m:MeQ) (l:List Int):MeQ × Nat:=(crL m l).foldl crS (m,0)
theorem crC_at:∀ {pre:List Int}{x:MeQ × Nat}{p:Int}{ps:List Int},crC x (pre ++ p :: ps)=true→okS (pre.foldl crS x).1 p=true
  | [],x,p,ps,h=> by
    have h:(okS x.1 p && crC (crS x p) ps)=true:=h
    rw[Bool.and_eq_true] at h
    exact h.1
  | q :: pre,x,p,ps,h=> by
    have h:(okS x.1 q && crC (crS x q) (pre ++ p :: ps))=true:=h
    rw[Bool.and_eq_true] at h
    exact crC_at (pre:=pre) h.2
theorem okS_fit {x:MeQ × Nat}{p:Int}(hx:FitM x.1) (h:okS x.1 p=true):FitM (crS x p).1:=by
  unfold okS at h
  unfold crS
  rw[Bool.and_eq_true] at h
  by_cases hr:remB x.1 p=true
  · rw[hr] at h ⊢
    simp only[Bool.not_true,Bool.false_or,Bool.and_eq_true] at h
    rw[if_pos rfl]
    exact fit_of h.2.1
  · rw[if_neg hr]
    exact hx
theorem crC_fit:∀ {l:List Int}{x:MeQ × Nat},FitM x.1→crC x l=true→∀ {pre suf:List Int},l=pre ++ suf→FitM (pre.foldl crS x).1
  | l,x,hx,h,[],suf,e=> hx
  | l,x,hx,h,q :: pre,suf,e=> by
    subst e
    have h:(okS x.1 q && crC (crS x q) (pre ++ suf))=true:=h
    rw[Bool.and_eq_true] at h
    exact crC_fit (okS_fit hx h.1) h.2 (pre:=pre) rfl
end

end Go.Proofs.YtmkcacgmnnlddaaGreat
