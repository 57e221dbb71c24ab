/- Lemmas. -/
import Derived.Test.YtjaapemopbbfaaaGreatRows
import Derived.Test.YtjaapemopbbfaaaGreatPWorstShapeM19
import Derived.Test.YtjaapemopbbfaaaGreatPWorstShapeM13
namespace Go.Proofs.YtjaapemopbbfaaaGreat
section
open Go.RowKit
theorem sat_three {nx ny mx my kx ky:Rat}(hn:0≤ny) (hm:0≤my) (hk:ky≤0) (hp:0 < kx * my - ky * mx) (hq:0≤nx * my - ny * mx) (hn0:ny=0→0 < nx):0≤kx * ny - ky * nx:=by
  have id:my * (kx * ny - ky * nx)=ny * (kx * my - ky * mx)+(-ky) * (nx * my - ny * mx):=by grind
  have h1:0≤ny * (kx * my - ky * mx):=Rat.mul_nonneg hn (by grind)
  have h2:0≤(-ky) * (nx * my - ny * mx):=Rat.mul_nonneg (by grind) hq
  by_cases h0:my=0
  · subst h0
    have h3:ny * (kx * 0 - ky * mx)=0:=by grind
    have h4:ny=0:=by
      rcases Rat.mul_eq_zero.1 h3 with h | h
      · exact h
      · grind
    have h5:=hn0 h4
    have h6:0≤(-ky) * nx:=Rat.mul_nonneg (by grind) (by grind)
    subst h4
    grind
  · have h3:0 < my:=by grind
    by_cases h4:0≤kx * ny - ky * nx
    · exact h4
    · have h5:0 < my * (-(kx * ny - ky * nx)):=Rat.mul_pos h3 (by grind)
      grind
theorem sat_near {lx ly ux uy gx gy:Rat}(hl:ly≤0) (hu:0≤uy) (hg:0≤gx) (hK:0≤lx * uy - ly * ux) (h0:uy=0→0 < ux):0≤ux * gx+uy * gy∨0≤lx * gx+ly * gy:=by
  by_cases h1:0≤ux * gx+uy * gy
  · exact .inl h1
  by_cases h2:0≤lx * gx+ly * gy
  · exact .inr h2
  exfalso
  have a1:0≤gx * (lx * uy - ly * ux):=Rat.mul_nonneg hg hK
  by_cases h3:uy=0
  · subst h3
    have:=Rat.mul_nonneg (show 0≤ux by grind) hg
    grind
  · have a2:0 < uy * (-(lx * gx+ly * gy)):=Rat.mul_pos (by grind) (by grind)
    have a3:0≤(-ly) * (-(ux * gx+uy * gy)):=Rat.mul_nonneg (by grind) (by grind)
    grind
/-- p, q: the sides that meet in the rightmost corner of the left triangle; r, u: those in the leftmost corner of the right one; g: from the one corner to the other -/
theorem sat_core {px py qx qy rx ry ux uy gx gy:Rat}(h1:0≤px) (h2:qx≤0) (h3:rx≤0) (h4:0≤ux) (h5:0≤gx) (h6:0 < px * qy - py * qx) (h7:0 < rx * uy - ry * ux) :
    (px * gy - py * gx≤0∧px * (gy+uy) - py * (gx+ux)≤0∧px * (gy - ry) - py * (gx - rx)≤0) ∨
    (qx * gy - qy * gx≤0∧qx * (gy+uy) - qy * (gx+ux)≤0∧qx * (gy - ry) - qy * (gx - rx)≤0) ∨
    (rx * (-gy) - ry * (-gx)≤0∧rx * (-gy - py) - ry * (-gx - px)≤0∧rx * (-gy+qy) - ry * (-gx+qx)≤0) ∨
    (ux * (-gy) - uy * (-gx)≤0∧ux * (-gy - py) - uy * (-gx - px)≤0∧ux * (-gy+qy) - uy * (-gx+qx)≤0):=by
  have q0 : -qx=0→0 < qy:=by
    intro h
    have:qx=0:=by grind
    subst this
    by_cases h8:0 < qy
    · exact h8
    · have:=Rat.mul_nonneg h1 (show 0≤-qy by grind)
      grind
  have p0:px=0→0 < py:=by
    intro h
    subst h
    by_cases h8:0 < py
    · exact h8
    · have:=Rat.mul_nonneg (show 0≤-py by grind) (show 0≤-qx by grind)
      grind
  have u0:ux=0→0 < -uy:=by
    intro h
    subst h
    by_cases h8:0 < -uy
    · exact h8
    · have:=Rat.mul_nonneg (show 0≤-rx by grind) (show 0≤uy by grind)
      grind
  have r0 : -rx=0→0 < -ry:=by
    intro h
    have:rx=0:=by grind
    subst this
    by_cases h8:0 < -ry
    · exact h8
    · have:=Rat.mul_nonneg (show 0≤ry by grind) h4
      grind
  rcases(show 0≤qy * ux - qx * uy∨0≤-(qy * ux - qx * uy) by grind) with hU | hU
  · rcases(show 0≤ry * px - rx * py∨0≤-(ry * px - rx * py) by grind) with hL | hL
    · -- Q, P
      have K1:0≤(-ry) * (-qx) - rx * qy:=sat_three (nx:=qy) (ny:=-qx) (mx:=-uy) (my:=ux) (kx:=-ry) (ky:=rx) (by grind) h4 h3 (by grind) (by grind) q0
      have K2:0≤py * ux - px * uy:=by
        have:=sat_three (nx:=py) (ny:=px) (mx:=-ry) (my:=-rx) (kx:=-uy) (ky:=-ux) h1 (by grind) (by grind) (by grind) (by grind) p0
        grind
      rcases sat_near (lx:=py) (ly:=-px) (ux:=qy) (uy:=-qx) (gx:=gx) (gy:=gy) (by grind) (by grind) h5 (by grind) q0 with h | h
      · right;left;grind
      · left;grind
    · -- Q, R
      have K1:0≤(-ry) * (-qx) - rx * qy:=sat_three (nx:=qy) (ny:=-qx) (mx:=-uy) (my:=ux) (kx:=-ry) (ky:=rx) (by grind) h4 h3 (by grind) (by grind) q0
      rcases sat_near (lx:=-ry) (ly:=rx) (ux:=qy) (uy:=-qx) (gx:=gx) (gy:=gy) h3 (by grind) h5 (by grind) q0 with h | h
      · right;left;grind
      · right;right;left;grind
  · rcases(show 0≤ry * px - rx * py∨0≤-(ry * px - rx * py) by grind) with hL | hL
    · -- U, P
      have K1:0≤py * ux - (-px) * (-uy):=sat_three (nx:=-uy) (ny:=ux) (mx:=qy) (my:=-qx) (kx:=py) (ky:=-px) h4 (by grind) (by grind) (by grind) (by grind) u0
      rcases sat_near (lx:=py) (ly:=-px) (ux:=-uy) (uy:=ux) (gx:=gx) (gy:=gy) (by grind) h4 h5 (by grind) u0 with h | h
      · right;right;right;grind
      · left;grind
    · -- U, R
      have K1:0≤py * ux - (-px) * (-uy):=sat_three (nx:=-uy) (ny:=ux) (mx:=qy) (my:=-qx) (kx:=py) (ky:=-px) h4 (by grind) (by grind) (by grind) (by grind) u0
      have K2:0≤-(-ry * (-qx))+qy * rx∨True:=.inr trivial
      rcases sat_near (lx:=-ry) (ly:=rx) (ux:=-uy) (uy:=ux) (gx:=gx) (gy:=gy) h3 h4 h5 (by grind) u0 with h | h
      · right;right;right;grind
      · right;right;left
        have K3:=sat_three (nx:=-ry) (ny:=-rx) (mx:=py) (my:=px) (kx:=qy) (ky:=qx) (by grind) h1 h2 (by grind) (by grind) r0
        grind
def dW (p q r:Rat × Rat):Rat:=(q.1 - p.1) * (r.2 - p.2) - (q.2 - p.2) * (r.1 - p.1)
def SepW (a b:Rat × Rat) (t0 t1 t2:Rat × Rat):Prop:=dW a b t0≤0∧dW a b t1≤0∧dW a b t2≤0
def SepWT (s0 s1 s2 t0 t1 t2:Rat × Rat):Prop:=SepW s0 s1 t0 t1 t2∨SepW s1 s2 t0 t1 t2∨SepW s2 s0 t0 t1 t2
/-- s0 is rightmost in s, t0 leftmost in t -/
theorem sat_at0 {s0 s1 s2 t0 t1 t2:Rat × Rat}(hs:0 < dW s0 s1 s2) (ht:0 < dW t0 t1 t2) (h1:s1.1≤s0.1) (h2:s2.1≤s0.1) (h3:t0.1≤t1.1) (h4:t0.1≤t2.1) (h5:s0.1≤t0.1):SepWT s0 s1 s2 t0 t1 t2∨SepWT t0 t1 t2 s0 s1 s2:=by
  obtain⟨s0x,s0y⟩:=s0
  obtain⟨s1x,s1y⟩:=s1
  obtain⟨s2x,s2y⟩:=s2
  obtain⟨t0x,t0y⟩:=t0
  obtain⟨t1x,t1y⟩:=t1
  obtain⟨t2x,t2y⟩:=t2
  simp only[SepWT,SepW,dW] at *
  have:=sat_core (px:=s0x - s2x) (py:=s0y - s2y) (qx:=s1x - s0x) (qy:=s1y - s0y) (rx:=t0x - t2x) (ry:=t0y - t2y) (ux:=t1x - t0x) (uy:=t1y - t0y) (gx:=t0x - s0x) (gy:=t0y - s0y) (by grind) (by grind) (by grind) (by grind) (by grind) (by grind) (by grind)
  rcases this with ⟨a,b,c⟩ |⟨a,b,c⟩ |⟨a,b,c⟩ |⟨a,b,c⟩
  · left;right;right;refine⟨?_,?_,?_⟩ <;> grind
  · left;left;refine⟨?_,?_,?_⟩ <;> grind
  · right;right;right;refine⟨?_,?_,?_⟩ <;> grind
  · right;left;refine⟨?_,?_,?_⟩ <;> grind
theorem SepWT.rotA {s0 s1 s2 t0 t1 t2:Rat × Rat}(h:SepWT s0 s1 s2 t0 t1 t2):SepWT s1 s2 s0 t0 t1 t2:=by
  unfold SepWT at *;rcases h with h | h | h <;> simp[h]
theorem SepWT.rotB {s0 s1 s2 t0 t1 t2:Rat × Rat}(h:SepWT s0 s1 s2 t0 t1 t2):SepWT s0 s1 s2 t1 t2 t0:=by
  unfold SepWT SepW at *;rcases h with h | h | h <;> simp[h]
theorem dW_rot (p q r:Rat × Rat):dW q r p=dW p q r:=by unfold dW;grind
theorem sat_xfar {s0 s1 s2 t0 t1 t2:Rat × Rat}(hs:0 < dW s0 s1 s2) (ht:0 < dW t0 t1 t2) (c:Rat) (h0:s0.1≤c) (h1:s1.1≤c) (h2:s2.1≤c) (k0:c≤t0.1) (k1:c≤t1.1) (k2:c≤t2.1):SepWT s0 s1 s2 t0 t1 t2∨SepWT t0 t1 t2 s0 s1 s2:=by
  have key:∀ {s0 s1 s2:Rat × Rat},0 < dW s0 s1 s2→s1.1≤s0.1→s2.1≤s0.1→s0.1≤c→SepWT s0 s1 s2 t0 t1 t2∨SepWT t0 t1 t2 s0 s1 s2:=by
    intro s0 s1 s2 hs h1 h2 h0
    rcases(show (t0.1≤t1.1∧t0.1≤t2.1)∨(t1.1≤t2.1∧t1.1≤t0.1)∨(t2.1≤t0.1∧t2.1≤t1.1) by grind) with ⟨a,b⟩ |⟨a,b⟩ |⟨a,b⟩
    · exact sat_at0 hs ht h1 h2 a b (by grind)
    · exact(sat_at0 hs (by rw[dW_rot];exact ht) h1 h2 a b (by grind)).elim (fun h=> .inl h.rotB.rotB) (fun h=> .inr h.rotA.rotA)
    · exact(sat_at0 hs (by rw[dW_rot,dW_rot];exact ht) h1 h2 a b (by grind)).elim (fun h=> .inl h.rotB) (fun h=> .inr h.rotA)
  rcases(show (s1.1≤s0.1∧s2.1≤s0.1)∨(s2.1≤s1.1∧s0.1≤s1.1)∨(s0.1≤s2.1∧s1.1≤s2.1) by grind) with ⟨a,b⟩ |⟨a,b⟩ |⟨a,b⟩
  · exact key hs a b h0
  · exact(key (by rw[dW_rot];exact hs) a b h1).elim (fun h=> .inl h.rotA.rotA) (fun h=> .inr h.rotB.rotB)
  · exact(key (by rw[dW_rot,dW_rot];exact hs) a b h2).elim (fun h=> .inl h.rotA) (fun h=> .inr h.rotB)
def trW (p:Rat × Rat):Rat × Rat:=(p.2,-p.1)
theorem dW_tr (p q r:Rat × Rat):dW (trW p) (trW q) (trW r)=dW p q r:=by unfold dW trW;grind
theorem SepWT_tr {s0 s1 s2 t0 t1 t2:Rat × Rat}:SepWT (trW s0) (trW s1) (trW s2) (trW t0) (trW t1) (trW t2)↔SepWT s0 s1 s2 t0 t1 t2:=by
  unfold SepWT SepW;simp only[dW_tr]
theorem sat_yfar {s0 s1 s2 t0 t1 t2:Rat × Rat}(hs:0 < dW s0 s1 s2) (ht:0 < dW t0 t1 t2) (c:Rat) (h0:s0.2≤c) (h1:s1.2≤c) (h2:s2.2≤c) (k0:c≤t0.2) (k1:c≤t1.2) (k2:c≤t2.2):SepWT s0 s1 s2 t0 t1 t2∨SepWT t0 t1 t2 s0 s1 s2:=by
  have:=sat_xfar (s0:=trW s0) (s1:=trW s1) (s2:=trW s2) (t0:=trW t0) (t1:=trW t1) (t2:=trW t2) (by rw[dW_tr];exact hs) (by rw[dW_tr];exact ht) c h0 h1 h2 k0 k1 k2
  rw[SepWT_tr,SepWT_tr] at this
  exact this
end

section
open Go.RowKit

/-- A point whose fractions are not too large. -/
def FtP (p:Rat × Rat):Prop:=Fit p.1∧Fit p.2
theorem FtP.ok {p:Rat × Rat}(h:FtP p):OkP (tp p):=⟨h.1.ok,h.2.ok⟩
theorem okP_tp {P:PtD}(h:OkP P):∃ p,P=tp p∧FtP p :=
  ⟨(vR P.x,vR P.y),by obtain⟨x,y⟩:=P;unfold tp;rw[← h.1.toR.1,← h.2.toR.1],h.1.toR.2,h.2.toR.2⟩
theorem tp_inj {p q:Rat × Rat}(h:tp p=tp q):p=q:=by
  unfold tp at h
  injection h with h1 h2
  exact Prod.ext (toR_inj h1) (toR_inj h2)
theorem toR_den (q:Rat):(toR q).den.length≠0:=by
  show (ints (dig q.den)).length≠0
  rw[ints_len]
  have:=dig_len_pos.2 q.den_pos
  omega
theorem fit_zero:Fit 0:=by
  unfold Fit
  exact⟨Nat.pos_of_ne_zero (by decide),by decide⟩
theorem Fit.neg {q:Rat}(h:Fit q):Fit (-q):=by
  unfold Fit at *
  simpa using h
open Classical in
theorem subR_g {p q:Rat}(hp:Fit p) (hq:Fit q):subR (toR p) (toR q)=if Fit (p - q) then toR (p - q) else zR:=by
  unfold subR
  rw[if_pos ⟨hp.ok,hq.ok⟩,rn_toR,rn_toR,rd_toR,rd_toR,ofFrac_toR _ (Nat.mul_pos p.den_pos q.den_pos),← Rat.sub_def']
open Classical in
theorem addR_g {p q:Rat}(hp:Fit p) (hq:Fit q):addR (toR p) (toR q)=if Fit (p+q) then toR (p+q) else zR:=by
  unfold addR
  rw[if_pos ⟨hp.ok,hq.ok⟩,rn_toR,rn_toR,rd_toR,rd_toR,ofFrac_toR _ (Nat.mul_pos p.den_pos q.den_pos),← Rat.add_def']
open Classical in
theorem mulR_g {p q:Rat}(hp:Fit p) (hq:Fit q):mulR (toR p) (toR q)=if Fit (p * q) then toR (p * q) else zR:=by
  unfold mulR
  rw[if_pos ⟨hp.ok,hq.ok⟩,rn_toR,rn_toR,rd_toR,rd_toR,ofFrac_toR _ (Nat.mul_pos p.den_pos q.den_pos),← Rat.mul_def']
theorem subR_zl (r:RatD):subR zR r=zR:=by unfold subR;rw[if_neg (fun h=> not_ok_zR h.1)]
theorem subR_zr (r:RatD):subR r zR=zR:=by unfold subR;rw[if_neg (fun h=> not_ok_zR h.2)]
theorem addR_zl (r:RatD):addR zR r=zR:=by unfold addR;rw[if_neg (fun h=> not_ok_zR h.1)]
theorem addR_zr (r:RatD):addR r zR=zR:=by unfold addR;rw[if_neg (fun h=> not_ok_zR h.2)]
theorem mulR_zl (r:RatD):mulR zR r=zR:=by unfold mulR;rw[if_neg (fun h=> not_ok_zR h.1)]
theorem mulR_zr (r:RatD):mulR r zR=zR:=by unfold mulR;rw[if_neg (fun h=> not_ok_zR h.2)]
open Classical in
theorem subP_g {p q:Rat × Rat}(hp:FtP p) (hq:FtP q):subP (tp p) (tp q)=if Fit (p.1 - q.1)∧Fit (p.2 - q.2) then tp (p.1 - q.1,p.2 - q.2) else zP:=by
  unfold subP
  rw[show (tp p).x=toR p.1 from rfl,show (tp q).x=toR q.1 from rfl,show (tp p).y=toR p.2 from rfl,show (tp q).y=toR q.2 from rfl,subR_g hp.1 hq.1,subR_g hp.2 hq.2]
  by_cases h1:Fit (p.1 - q.1)
  · by_cases h2:Fit (p.2 - q.2)
    · rw[if_pos h1,if_pos h2,if_pos ⟨h1,h2⟩]
      unfold ifP
      rw[if_neg]
      · rfl
      · rintro (h | h)
        · exact toR_den _ h
        · exact toR_den _ h
    · rw[if_pos h1,if_neg h2,if_neg (show ¬ (Fit (p.1 - q.1)∧Fit (p.2 - q.2)) from fun h=> h2 h.2)]
      unfold ifP
      rw[if_pos (.inr rfl)]
  · rw[if_neg h1,if_neg (show ¬ (Fit (p.1 - q.1)∧Fit (p.2 - q.2)) from fun h=> h1 h.1)]
    unfold ifP
    rw[if_pos (.inl rfl)]
theorem crossP_zl (p:PtD):crossP zP p=zR:=by unfold crossP;rw[show zP.x=zR from rfl,mulR_zl,subR_zl]
theorem crossP_zr (p:PtD):crossP p zP=zR:=by unfold crossP;rw[show zP.y=zR from rfl,mulR_zr,subR_zl]
/-- What the program computes on the way to a double area, is not too large. -/
def FtD (a b c:Rat × Rat):Prop:=(Fit (b.1 - a.1)∧Fit (b.2 - a.2))∧(Fit (c.1 - a.1)∧Fit (c.2 - a.2))∧Fit ((b.1 - a.1) * (c.2 - a.2))∧Fit ((b.2 - a.2) * (c.1 - a.1))∧Fit (dW a b c)
open Classical in
theorem dblA_g {a b c:Rat × Rat}(ha:FtP a) (hb:FtP b) (hc:FtP c):dblA (tp a) (tp b) (tp c)=if FtD a b c then toR (dW a b c) else zR:=by
  unfold dblA
  rw[subP_g hb ha,subP_g hc ha]
  by_cases h1:Fit (b.1 - a.1)∧Fit (b.2 - a.2)
  · by_cases h2:Fit (c.1 - a.1)∧Fit (c.2 - a.2)
    · rw[if_pos h1,if_pos h2]
      unfold crossP
      rw[show (tp (b.1 - a.1,b.2 - a.2)).x=toR (b.1 - a.1) from rfl,show (tp (b.1 - a.1,b.2 - a.2)).y=toR (b.2 - a.2) from rfl,show (tp (c.1 - a.1,c.2 - a.2)).x=toR (c.1 - a.1) from rfl,show (tp (c.1 - a.1,c.2 - a.2)).y=toR (c.2 - a.2) from rfl,mulR_g h1.1 h2.2,mulR_g h1.2 h2.1]
      by_cases h3:Fit ((b.1 - a.1) * (c.2 - a.2))
      · by_cases h4:Fit ((b.2 - a.2) * (c.1 - a.1))
        · rw[if_pos h3,if_pos h4,subR_g h3 h4]
          by_cases h5:Fit (dW a b c)
          · rw[if_pos (show FtD a b c from ⟨h1,h2,h3,h4,h5⟩),if_pos (show Fit ((b.1 - a.1) * (c.2 - a.2) - (b.2 - a.2) * (c.1 - a.1)) from h5)]
            rfl
          · rw[if_neg (show ¬ FtD a b c from fun h=> h5 h.2.2.2.2),if_neg (show ¬ Fit ((b.1 - a.1) * (c.2 - a.2) - (b.2 - a.2) * (c.1 - a.1)) from h5)]
        · rw[if_neg h4,subR_zr,if_neg (show ¬ FtD a b c from fun h=> h4 h.2.2.2.1)]
      · rw[if_neg h3,subR_zl,if_neg (show ¬ FtD a b c from fun h=> h3 h.2.2.1)]
    · rw[if_neg h2,crossP_zr,if_neg (fun h=> h2 h.2.1)]
  · rw[if_neg h1,crossP_zl,if_neg (fun h=> h1 h.1)]
theorem sgnR_zR:sgnR zR=0:=by unfold sgnR;rw[if_neg not_ok_zR]
/-- The sign of a double area, as the program computes it. -/
noncomputable def sgW (a b c:Rat × Rat):Int:=sgnR (dblA (tp a) (tp b) (tp c))
theorem sgW_yes {a b c:Rat × Rat}(ha:FtP a) (hb:FtP b) (hc:FtP c) (h:FtD a b c):sgW a b c=if dW a b c < 0 then -1 else if 0 < dW a b c then 1 else 0:=by
  unfold sgW
  rw[dblA_g ha hb hc,if_pos h,sgnR_toR h.2.2.2.2]
theorem sgW_no {a b c:Rat × Rat}(ha:FtP a) (hb:FtP b) (hc:FtP c) (h:¬ FtD a b c):sgW a b c=0:=by
  unfold sgW
  rw[dblA_g ha hb hc,if_neg h,sgnR_zR]
theorem sgW_pos {a b c:Rat × Rat}(ha:FtP a) (hb:FtP b) (hc:FtP c):0 < sgW a b c↔FtD a b c∧0 < dW a b c:=by
  by_cases h:FtD a b c
  · rw[sgW_yes ha hb hc h]
    constructor
    · intro h1
      refine⟨h,?_⟩
      by_cases h2:0 < dW a b c
      · exact h2
      · rw[if_neg h2] at h1
        split at h1 <;> omega
    · intro h1
      rw[if_neg (by grind),if_pos h1.2]
      omega
  · rw[sgW_no ha hb hc h]
    exact⟨fun h1=> by omega,fun h1=> absurd h1.1 h⟩
theorem sgW_zero {a b c:Rat × Rat}(ha:FtP a) (hb:FtP b) (hc:FtP c):sgW a b c=0↔¬ FtD a b c∨dW a b c=0:=by
  by_cases h:FtD a b c
  · rw[sgW_yes ha hb hc h]
    constructor
    · intro h1
      right
      by_cases h2:dW a b c < 0
      · rw[if_pos h2] at h1;omega
      · rw[if_neg h2] at h1
        by_cases h3:0 < dW a b c
        · rw[if_pos h3] at h1;omega
        · grind
    · rintro (h1 | h1)
      · exact absurd h h1
      · rw[h1];simp
  · rw[sgW_no ha hb hc h]
    exact⟨fun _=> .inl h,fun _=> rfl⟩
theorem dW_np {a b c:Rat × Rat}(ha:FtP a) (hb:FtP b) (hc:FtP c) (h:dW a b c≤0):sgW a b c≤0:=by
  by_cases h1:0 < sgW a b c
  · have:=((sgW_pos ha hb hc).1 h1).2
    grind
  · omega
end

section
open Go.RowKit

def inBx (a b p:Rat × Rat):Prop:=((a.1≤p.1∨b.1≤p.1)∧(p.1≤a.1∨p.1≤b.1))∧(a.2≤p.2∨b.2≤p.2)∧(p.2≤a.2∨p.2≤b.2)
def nW (a b p:Rat × Rat):Rat:=(a.1 - p.1) * (b.1 - p.1)+(a.2 - p.2) * (b.2 - p.2)
def FtN (a b p:Rat × Rat):Prop:=(Fit (a.1 - p.1)∧Fit (a.2 - p.2))∧(Fit (b.1 - p.1)∧Fit (b.2 - p.2))∧Fit ((a.1 - p.1) * (b.1 - p.1))∧Fit ((a.2 - p.2) * (b.2 - p.2))∧Fit (nW a b p)
/-- p lies inside the edge of a and b: the program's answer, and the reference's. -/
def insG (a b p:Rat × Rat):Prop:=sgW a b p=0∧inBx a b p
def insS (a b p:Rat × Rat):Prop:=inBx a b p∧(¬ FtD a b p∨dW a b p=0∧(¬ FtN a b p∨nW a b p < 0))
/-- An edge whose square the program cannot reckon. -/
def BadE (a b:Rat × Rat):Prop:=¬ Fit (b.1 - a.1)∨¬ Fit (b.2 - a.2)∨¬ Fit ((b.1 - a.1) * (b.2 - a.2))
theorem mul_np_of {x y p:Rat}(h1:x≤p∨y≤p) (h2:p≤x∨p≤y):(x - p) * (y - p)≤0:=by
  rcases(show (x≤p∧p≤y)∨(y≤p∧p≤x)∨x - p=0∨y - p=0 by grind) with h | h | h | h
  · have:=Rat.mul_nonneg (show 0≤p - x by grind) (show 0≤y - p by grind)
    grind
  · have:=Rat.mul_nonneg (show 0≤x - p by grind) (show 0≤p - y by grind)
    grind
  · rw[h];grind
  · rw[h];grind
theorem nW_neg {a b p:Rat × Rat}(h:inBx a b p) (hd:dW a b p=0) (ha:p≠a) (hb:p≠b):nW a b p < 0:=by
  obtain⟨a1,a2⟩:=a
  obtain⟨b1,b2⟩:=b
  obtain⟨p1,p2⟩:=p
  obtain⟨⟨h1,h2⟩,h3,h4⟩:=h
  simp only[nW,dW] at *
  have hx:=mul_np_of h1 h2
  have hy:=mul_np_of h3 h4
  by_cases hn:(a1 - p1) * (b1 - p1)+(a2 - p2) * (b2 - p2) < 0
  · exact hn
  exfalso
  have hx0:(a1 - p1) * (b1 - p1)=0:=by grind
  have hy0:(a2 - p2) * (b2 - p2)=0:=by grind
  have hA:¬ (a1 - p1=0∧a2 - p2=0):=fun hk=> ha (by rw[show a1=p1 by grind,show a2=p2 by grind])
  have hB:¬ (b1 - p1=0∧b2 - p2=0):=fun hk=> hb (by rw[show b1=p1 by grind,show b2=p2 by grind])
  have hc:(a1 - p1) * (b2 - p2)=(a2 - p2) * (b1 - p1):=by grind
  rcases Rat.mul_eq_zero.1 hx0 with e1 | e1
  · rcases Rat.mul_eq_zero.1 hy0 with e2 | e2
    · exact hA ⟨e1,e2⟩
    · have h0:(a2 - p2) * (b1 - p1)=0:=by rw[← hc,e1];grind
      rcases Rat.mul_eq_zero.1 h0 with e3 | e3
      · exact hA ⟨e1,e3⟩
      · exact hB ⟨e3,e2⟩
  · rcases Rat.mul_eq_zero.1 hy0 with e2 | e2
    · have h0:(a1 - p1) * (b2 - p2)=0:=by rw[hc,e1];grind
      rcases Rat.mul_eq_zero.1 h0 with e3 | e3
      · exact hA ⟨e3,e2⟩
      · exact hB ⟨e1,e3⟩
    · exact hB ⟨e1,e2⟩
theorem ins_other {a b p:Rat × Rat}(ha:FtP a) (hb:FtP b) (hp:FtP p) (h1:p≠a) (h2:p≠b):insG a b p↔insS a b p:=by
  constructor
  · rintro ⟨h,hx⟩
    refine⟨hx,?_⟩
    rcases(sgW_zero ha hb hp).1 h with h | h
    · exact .inl h
    · exact .inr ⟨h,.inr (nW_neg hx h h1 h2)⟩
  · rintro ⟨hx,h⟩
    refine⟨(sgW_zero ha hb hp).2 ?_,hx⟩
    rcases h with h | h
    · exact .inl h
    · exact .inr h.1
theorem insS_a {a b:Rat × Rat}(h:insS a b a):BadE a b:=by
  by_cases hd:Fit (b.1 - a.1)∧Fit (b.2 - a.2)
  · exfalso
    have z1:a.1 - a.1=0:=by grind
    have z2:a.2 - a.2=0:=by grind
    rcases h.2 with h |⟨_,h | h⟩
    · refine h ⟨hd,⟨by rw[z1];exact fit_zero,by rw[z2];exact fit_zero⟩,?_,?_,?_⟩
      · rw[z2,Rat.mul_zero];exact fit_zero
      · rw[z1,Rat.mul_zero];exact fit_zero
      · unfold dW;rw[z1,z2,Rat.mul_zero,Rat.mul_zero,show (0:Rat) - 0=0 by grind];exact fit_zero
    · refine h ⟨⟨by rw[z1];exact fit_zero,by rw[z2];exact fit_zero⟩,hd,?_,?_,?_⟩
      · rw[z1,Rat.zero_mul];exact fit_zero
      · rw[z2,Rat.zero_mul];exact fit_zero
      · unfold nW;rw[z1,z2,Rat.zero_mul,Rat.zero_mul,show (0:Rat)+0=0 by grind];exact fit_zero
    · unfold nW at h
      rw[z1,z2] at h
      grind
  · unfold BadE
    by_cases h1:Fit (b.1 - a.1)
    · exact .inr (.inl fun h2=> hd ⟨h1,h2⟩)
    · exact .inl h1
theorem insS_b {a b:Rat × Rat}(h:insS a b b):BadE a b:=by
  by_cases hd:Fit (b.1 - a.1)∧Fit (b.2 - a.2)
  · by_cases hm:Fit ((b.1 - a.1) * (b.2 - a.2))
    · exfalso
      have z1:b.1 - b.1=0:=by grind
      have z2:b.2 - b.2=0:=by grind
      have n1:a.1 - b.1=-(b.1 - a.1):=by grind
      have n2:a.2 - b.2=-(b.2 - a.2):=by grind
      rcases h.2 with h |⟨_,h | h⟩
      · refine h ⟨hd,hd,hm,by rw[Rat.mul_comm];exact hm,?_⟩
        unfold dW
        rw[show (b.1 - a.1) * (b.2 - a.2) - (b.2 - a.2) * (b.1 - a.1)=0 by grind]
        exact fit_zero
      · refine h ⟨⟨by rw[n1];exact hd.1.neg,by rw[n2];exact hd.2.neg⟩,⟨by rw[z1];exact fit_zero,by rw[z2];exact fit_zero⟩,?_,?_,?_⟩
        · rw[z1,Rat.mul_zero];exact fit_zero
        · rw[z2,Rat.mul_zero];exact fit_zero
        · unfold nW;rw[z1,z2,Rat.mul_zero,Rat.mul_zero,show (0:Rat)+0=0 by grind];exact fit_zero
      · unfold nW at h
        rw[z1,z2] at h
        grind
    · exact .inr (.inr hm)
  · unfold BadE
    by_cases h1:Fit (b.1 - a.1)
    · exact .inr (.inl fun h2=> hd ⟨h1,h2⟩)
    · exact .inl h1
/-- An edge of the first triangle has the second one on its right side, as the program sees it. -/
def sepG (a b d e f:Rat × Rat):Prop:=sgW a b d≤0∧sgW a b e≤0∧sgW a b f≤0
def apG (a b c d e f:Rat × Rat):Prop:=sepG a b d e f∨sepG b c d e f∨sepG c a d e f
theorem apG_of {a b c d e f:Rat × Rat}(ha:FtP a) (hb:FtP b) (hc:FtP c) (hd:FtP d) (he:FtP e) (hf:FtP f) (h:SepWT a b c d e f):apG a b c d e f:=by
  rcases h with h | h | h
  · exact .inl ⟨dW_np ha hb hd h.1,dW_np ha hb he h.2.1,dW_np ha hb hf h.2.2⟩
  · exact .inr (.inl ⟨dW_np hb hc hd h.1,dW_np hb hc he h.2.1,dW_np hb hc hf h.2.2⟩)
  · exact .inr (.inr ⟨dW_np hc ha hd h.1,dW_np hc ha he h.2.1,dW_np hc ha hf h.2.2⟩)
/-- The smallest rectangle that contains some points. -/
structure BxQ where
  l:Rat
  r:Rat
  lo:Rat
  hi:Rat
  deriving DecidableEq
def bx1 (b:BxQ) (p:Rat × Rat):BxQ:=⟨if p.1 < b.l then p.1 else b.l,b.r,b.lo,b.hi⟩
def bx2' (b:BxQ) (p:Rat × Rat):BxQ:=⟨b.l,if b.r < p.1 then p.1 else b.r,b.lo,b.hi⟩
def bx3' (b:BxQ) (p:Rat × Rat):BxQ:=⟨b.l,b.r,if p.2 < b.lo then p.2 else b.lo,b.hi⟩
def bx4' (b:BxQ) (p:Rat × Rat):BxQ:=⟨b.l,b.r,b.lo,if b.hi < p.2 then p.2 else b.hi⟩
def bxS (b:BxQ) (p:Rat × Rat):BxQ:=bx4' (bx3' (bx2' (bx1 b p) p) p) p
def bxTo (l:List (Rat × Rat)):Nat→BxQ
  | 0 =>⟨(pix l 0).1,(pix l 0).1,(pix l 0).2,(pix l 0).2⟩
  | k+1=> bxS (bxTo l k) (pix l k)
def bxA (l:List (Rat × Rat)):BxQ:=bxTo l l.length
def farQ (a b:BxQ):Bool:=decide (a.r≤b.l) || (decide (b.r≤a.l) || (decide (a.hi≤b.lo) || decide (b.hi≤a.lo)))
def outQ (x:BxQ) (p:Rat × Rat):Bool:=decide (p.1 < x.l) || (decide (x.r < p.1) || (decide (p.2 < x.lo) || decide (x.hi < p.2)))
def BxIn (x:BxQ) (p:Rat × Rat):Prop:=(x.l≤p.1∧p.1≤x.r)∧x.lo≤p.2∧p.2≤x.hi
theorem bxS_in (b:BxQ) (p:Rat × Rat):BxIn (bxS b p) p∧∀ q,BxIn b q→BxIn (bxS b p) q:=by
  unfold BxIn bxS bx4' bx3' bx2' bx1
  refine⟨?_,fun q hq=> ?_⟩
  · simp only
    refine⟨⟨?_,?_⟩,?_,?_⟩ <;> split <;> grind
  · simp only
    refine⟨⟨?_,?_⟩,?_,?_⟩ <;> split <;> grind
theorem bxTo_in {l:List (Rat × Rat)}:∀ {k j:Nat},j < k→BxIn (bxTo l k) (pix l j)
  | k+1,j,h=> by
    rcases(show j < k∨j=k by omega) with h | rfl
    · exact(bxS_in _ _).2 _ (bxTo_in h)
    · exact(bxS_in _ _).1
theorem bxA_3 (a b c:Rat × Rat):BxIn (bxA [a,b,c]) a∧BxIn (bxA [a,b,c]) b∧BxIn (bxA [a,b,c]) c :=
  ⟨bxTo_in (l:=[a,b,c]) (k:=3) (j:=0) (by omega),bxTo_in (l:=[a,b,c]) (k:=3) (j:=1) (by omega),bxTo_in (l:=[a,b,c]) (k:=3) (j:=2) (by omega)⟩
theorem bxA_2 (a b p:Rat × Rat):outQ (bxA [a,b]) p=false↔inBx a b p:=by
  have e:bxA [a,b]=bxS (bxS ⟨a.1,a.1,a.2,a.2⟩ a) b:=rfl
  rw[e]
  unfold outQ inBx bxS bx4' bx3' bx2' bx1
  simp only[Bool.or_eq_false_iff,decide_eq_false_iff_not]
  grind
theorem far_ap {a b c d e f:Rat × Rat}(hs:0 < dW a b c) (ht:0 < dW d e f) (h:farQ (bxA [a,b,c]) (bxA [d,e,f])=true):SepWT a b c d e f∨SepWT d e f a b c:=by
  obtain⟨⟨⟨a1,a2⟩,a3,a4⟩,⟨⟨b1,b2⟩,b3,b4⟩,⟨c1,c2⟩,c3,c4⟩:=bxA_3 a b c
  obtain⟨⟨⟨d1,d2⟩,d3,d4⟩,⟨⟨e1,e2⟩,e3,e4⟩,⟨f1,f2⟩,f3,f4⟩:=bxA_3 d e f
  unfold farQ at h
  simp only[Bool.or_eq_true,decide_eq_true_eq] at h
  rcases h with h | h | h | h
  · exact sat_xfar hs ht (bxA [a,b,c]).r a2 b2 c2 (Rat.le_trans h d1) (Rat.le_trans h e1) (Rat.le_trans h f1)
  · exact(sat_xfar ht hs (bxA [d,e,f]).r d2 e2 f2 (Rat.le_trans h a1) (Rat.le_trans h b1) (Rat.le_trans h c1)).symm
  · exact sat_yfar hs ht (bxA [a,b,c]).hi a4 b4 c4 (Rat.le_trans h d3) (Rat.le_trans h e3) (Rat.le_trans h f3)
  · exact(sat_yfar ht hs (bxA [d,e,f]).hi d4 e4 f4 (Rat.le_trans h a3) (Rat.le_trans h b3) (Rat.le_trans h c3)).symm
end

end Go.Proofs.YtjaapemopbbfaaaGreat
