import Derived.Test.YtjaapemopbbfaaaGreatDoorPMeshesM29
import Derived.Test.YtjaapemopbbfaaaGreatDoorPMeshesM22
import Derived.Lib.SplitLaws
import Derived.Lib.CountLaws
import Derived.Lib.AtoiErrMem
namespace Go.Proofs.YtjaapemopbbfaaaGreatDoor
open Go.RowKit
set_option maxRecDepth 100000
set_option maxHeartbeats 16000000
def PtT (l:List UInt8):Prop:=44∈l/\OkT (zH 44 l)/\OkT (yT 44 l)
def qp (l:List UInt8):PtD:=⟨qv (zH 44 l),qv (yT 44 l)⟩
def qen (w:World) (s:ByteArray) (e:Ending) (w':World):Prop :=
 ((PtT (bl s)/\∃s1 A1 n1 c1 B1 m1 d1 s2 A2 n2 c2 B2 m2 d2,e=.returned (.tuple #[.agg #[.bool s1,.slice A1 n1 c1,.slice B1 m1 d1,.bool s2,.slice A2 n2 c2,.slice B2 m2 d2],.bool true])/\OwP 3 w.heap.size w' s1 A1 n1 c1 B1 m1 d1 s2 A2 n2 c2 B2 m2 d2 (qp (bl s)))\/(¬PtT (bl s)/\e=.returned (.tuple #[.agg #[.bool false,.slice none 0 0,.slice none 0 0,.bool false,.slice none 0 0,.slice none 0 0],.bool false])))/\Bl w w'
theorem Y4 (w:World) (s:ByteArray) (hs:s.size<=1048576) (hE:Env w) :
  Calls Tryz.prog 7 #[.string s] w (qen w s):=by
 obtain⟨mx,hmx⟩:=hE.2
 have hmx:=Lib.hid hmx;rename_i hmx_;clear hmx_
 have hE:=Lib.hid hE;rename_i hE_;clear hE_
 have hcut0:=KH 44 (bl s)
 have hs1:=Nat.le_trans (kj s 44) hs
 have hsz:=zZ s
 by_cases h44:44∈bl s
 ·rw[if_pos h44]at hcut0
  have hcut:Lib.cut s.data.toList (sb [44]).data.toList=(zH 44 (bl s),yT 44 (bl s),true):=hcut0
  have hs2:(sb (yT 44 (bl s))).size<=1048576:=by rw[zt];have:=Ku 44 (bl s);omega
  replace h44:=Lib.hid h44
  clear hcut0 hsz
  go_enter Tryz.func7,Tryz.ntmps7
  go_upto_region 1 with (fail)
  refine qe (λW=>Bl w W/\∃r,Wk 6 28 r W/\r=w.heap.size) ⟨slc,_,by exact bts,rfl⟩ ?_
  rintro W0 ⟨hbW,r,hr,hre⟩
  rw[<-hre]
  have hrw:w.heap.size<=r:=by omega
  clear hre
  go_wp2_with (first
   | (go_at_call 37;refine(Tryz.strings_Cut s (sb [44]) mx _ (by omega) ((Bl.qeV hbW (YA hmx.out)).trans hmx.out)).mono ?_;rw[hcut];rintro e w1 ⟨rfl,hq1⟩;have hb1:=vV hq1;clear hq1)
   | (go_at_call 38;refine(jd w1 (sb (zH 44 (bl s))) hs1 (hE.out.bl (hbW.next hb1))).mono ?_))
  rintro e w2 ⟨(⟨hT1,s1,A1,n1,c1,B1,m1,d1,rfl,hO1⟩ |⟨hT1,rfl⟩),hb2⟩
  ·go_upto_region 3 with (fail)
   refine qe (λW=>Bl w2 W/\∃g,Blk W g 26 #[.bool s1,.slice A1 n1 c1,.slice B1 m1 d1]/\g=w2.heap.size) ⟨slc,_,by exact bts,rfl⟩ ?_
   rintro W2 ⟨hb3,g,hgx,hge⟩
   rw[<-hge]
   have hgw:w2.heap.size<=g:=by omega
   clear hge
   have hbw2:Bl w W2:=((hbW.next hb1).next hb2).next hb3
   have hbr2:Bl W0 W2:=(hb1.next hb2).next hb3
   go_wp2_with (go_at_call 38;refine(jd W2 (sb (yT 44 (bl s))) hs2 (hE.out.bl hbw2)).mono ?_)
   rintro e w4 ⟨(⟨hT2,s2,A2,n2,c2,B2,m2,d2,rfl,hO2⟩ |⟨hT2,rfl⟩),hb4⟩
   ·go_upto_region 4 with (fail)
    refine qe (λW=>Bl w4 W/\∃k,Blk W k 26 #[.bool s2,.slice A2 n2 c2,.slice B2 m2 d2]/\k=w4.heap.size) ⟨slc,_,by exact bts,rfl⟩ ?_
    rintro W4 ⟨hb5,k,hkx,hke⟩
    rw[<-hke]
    have hkw:w4.heap.size<=k:=by omega
    clear hke
    have hbw4:=hbw2.next (hb4.next hb5)
    have hgx4:=hgx.bl (hb4.next hb5)
    have hyes:Hid (PtT (bl s)):=Lib.hid ⟨h44.out,hT1,hT2⟩
    obtain⟨y0,y1,y2⟩:=bx3 hgx4
    obtain⟨z0,z1,z2⟩:=bx3 hkx
    have hrg:r≠g:=by have h1:=hr.lt;have h2:=hb1.size;have h3:=hb2.size;omega
    have hrk:r≠k:=by have h1:=hr.lt;have h2:=hbr2.size;have h3:=hb4.size;omega
    have hPt:OwP 3 W0.heap.size W4 s1 A1 n1 c1 B1 m1 d1 s2 A2 n2 c2 B2 m2 d2 ⟨qv (zH 44 (bl s)),qv (yT 44 (bl s))⟩:=(OwP.two (p:=⟨qv (zH 44 (bl s)),qv (yT 44 (bl s))⟩) (OwR.mono (hO1.bl hb3) hb1.size) hO2 hb4 hbr2.size).bl hb5
    have hr2:=hr.bl (hbr2.next (hb4.next hb5))
    obtain⟨v0,x0⟩:=hr2.val_ (i:=0) (by omega)
    obtain⟨v1,x1⟩:=hr2.val_ (i:=1) (by omega)
    obtain⟨v2,x2⟩:=hr2.val_ (i:=2) (by omega)
    obtain⟨v3,x3⟩:=hr2.val_ (i:=3) (by omega)
    obtain⟨v4,x4⟩:=hr2.val_ (i:=4) (by omega)
    obtain⟨v5,x5⟩:=hr2.val_ (i:=5) (by omega)
    have hgr:=hr2.lt
    have hB:=hr2.blk
    have hf0:=hB.frozen 0
    have hf1:=hB.frozen 1
    have hf2:=hB.frozen 2
    have hf3:=hB.frozen 3
    have hf4:=hB.frozen 4
    have hf5:=hB.frozen 5
    go_wp2_with fail
    refine bodyPost_ret (v:=.tuple #[.agg #[.bool s1,.slice A1 n1 c1,.slice B1 m1 d1,.bool s2,.slice A2 n2 c2,.slice B2 m2 d2],.bool true]) (by simp[results,Tryz.results7,go_sem,x0,x1,x2,x3,x4,x5]) rfl ⟨.inl ⟨hyes.out,_,_,_,_,_,_,_,_,_,_,_,_,_,_,rfl,((((((hPt.far (q:=⟨r,0,none⟩) (show r<W0.heap.size from hr.lt) _).far (q:=⟨r,1,none⟩) (show r<W0.heap.size from hr.lt) _).far (q:=⟨r,2,none⟩) (show r<W0.heap.size from hr.lt) _).far (q:=⟨r,3,none⟩) (show r<W0.heap.size from hr.lt) _).far (q:=⟨r,4,none⟩) (show r<W0.heap.size from hr.lt) _).far (q:=⟨r,5,none⟩) (show r<W0.heap.size from hr.lt) _).low hbW.size⟩,slc⟩
   ·go_upto_region 4 with (fail)
    refine qe (λW=>Bl w4 W/\∃k,Blk W k 26 #[.bool false,.slice none 0 0,.slice none 0 0]/\k=w4.heap.size) ⟨slc,_,by exact bts,rfl⟩ ?_
    rintro W4 ⟨hb5,k,hkx,hke⟩
    rw[<-hke]
    have hkw:w4.heap.size<=k:=by omega
    clear hke
    have hbw4:=hbw2.next (hb4.next hb5)
    have hgx4:=hgx.bl (hb4.next hb5)
    have hno:Hid (¬PtT (bl s)):=Lib.hid (λh=>hT2 h.2.2)
    have hr2:=hr.bl (hbr2.next (hb4.next hb5))
    obtain⟨v0,x0⟩:=hr2.val_ (i:=0) (by omega)
    obtain⟨v1,x1⟩:=hr2.val_ (i:=1) (by omega)
    obtain⟨v2,x2⟩:=hr2.val_ (i:=2) (by omega)
    obtain⟨v3,x3⟩:=hr2.val_ (i:=3) (by omega)
    obtain⟨v4,x4⟩:=hr2.val_ (i:=4) (by omega)
    obtain⟨v5,x5⟩:=hr2.val_ (i:=5) (by omega)
    have hgr:=hr2.lt
    have hB:=hr2.blk
    have hf0:=hB.frozen 0
    have hf1:=hB.frozen 1
    have hf2:=hB.frozen 2
    have hf3:=hB.frozen 3
    have hf4:=hB.frozen 4
    have hf5:=hB.frozen 5
    go_wp2_with fail
    refine bodyPost_ret (v:=.tuple #[.agg #[.bool false,.slice none 0 0,.slice none 0 0,.bool false,.slice none 0 0,.slice none 0 0],.bool false]) (by simp[results,Tryz.results7,go_sem,x0,x1,x2,x3,x4,x5]) rfl ⟨.inr ⟨hno.out,rfl⟩,slc⟩
  ·go_upto_region 3 with (fail)
   refine qe (λW=>Bl w2 W/\∃g,Blk W g 26 #[.bool false,.slice none 0 0,.slice none 0 0]/\g=w2.heap.size) ⟨slc,_,by exact bts,rfl⟩ ?_
   rintro W2 ⟨hb3,g,hgx,hge⟩
   rw[<-hge]
   have hgw:w2.heap.size<=g:=by omega
   clear hge
   have hbw2:Bl w W2:=((hbW.next hb1).next hb2).next hb3
   have hbr2:Bl W0 W2:=(hb1.next hb2).next hb3
   go_wp2_with (go_at_call 38;refine(jd W2 (sb (yT 44 (bl s))) hs2 (hE.out.bl hbw2)).mono ?_)
   rintro e w4 ⟨(⟨hT2,s2,A2,n2,c2,B2,m2,d2,rfl,hO2⟩ |⟨hT2,rfl⟩),hb4⟩
   ·go_upto_region 4 with (fail)
    refine qe (λW=>Bl w4 W/\∃k,Blk W k 26 #[.bool s2,.slice A2 n2 c2,.slice B2 m2 d2]/\k=w4.heap.size) ⟨slc,_,by exact bts,rfl⟩ ?_
    rintro W4 ⟨hb5,k,hkx,hke⟩
    rw[<-hke]
    have hkw:w4.heap.size<=k:=by omega
    clear hke
    have hbw4:=hbw2.next (hb4.next hb5)
    have hgx4:=hgx.bl (hb4.next hb5)
    have hno:Hid (¬PtT (bl s)):=Lib.hid (λh=>hT1 h.2.1)
    have hr2:=hr.bl (hbr2.next (hb4.next hb5))
    obtain⟨v0,x0⟩:=hr2.val_ (i:=0) (by omega)
    obtain⟨v1,x1⟩:=hr2.val_ (i:=1) (by omega)
    obtain⟨v2,x2⟩:=hr2.val_ (i:=2) (by omega)
    obtain⟨v3,x3⟩:=hr2.val_ (i:=3) (by omega)
    obtain⟨v4,x4⟩:=hr2.val_ (i:=4) (by omega)
    obtain⟨v5,x5⟩:=hr2.val_ (i:=5) (by omega)
    have hgr:=hr2.lt
    have hB:=hr2.blk
    have hf0:=hB.frozen 0
    have hf1:=hB.frozen 1
    have hf2:=hB.frozen 2
    have hf3:=hB.frozen 3
    have hf4:=hB.frozen 4
    have hf5:=hB.frozen 5
    go_wp2_with fail
    refine bodyPost_ret (v:=.tuple #[.agg #[.bool false,.slice none 0 0,.slice none 0 0,.bool false,.slice none 0 0,.slice none 0 0],.bool false]) (by simp[results,Tryz.results7,go_sem,x0,x1,x2,x3,x4,x5]) rfl ⟨.inr ⟨hno.out,rfl⟩,slc⟩
   ·go_upto_region 4 with (fail)
    refine qe (λW=>Bl w4 W/\∃k,Blk W k 26 #[.bool false,.slice none 0 0,.slice none 0 0]/\k=w4.heap.size) ⟨slc,_,by exact bts,rfl⟩ ?_
    rintro W4 ⟨hb5,k,hkx,hke⟩
    rw[<-hke]
    have hkw:w4.heap.size<=k:=by omega
    clear hke
    have hbw4:=hbw2.next (hb4.next hb5)
    have hgx4:=hgx.bl (hb4.next hb5)
    have hno:Hid (¬PtT (bl s)):=Lib.hid (λh=>hT1 h.2.1)
    have hr2:=hr.bl (hbr2.next (hb4.next hb5))
    obtain⟨v0,x0⟩:=hr2.val_ (i:=0) (by omega)
    obtain⟨v1,x1⟩:=hr2.val_ (i:=1) (by omega)
    obtain⟨v2,x2⟩:=hr2.val_ (i:=2) (by omega)
    obtain⟨v3,x3⟩:=hr2.val_ (i:=3) (by omega)
    obtain⟨v4,x4⟩:=hr2.val_ (i:=4) (by omega)
    obtain⟨v5,x5⟩:=hr2.val_ (i:=5) (by omega)
    have hgr:=hr2.lt
    have hB:=hr2.blk
    have hf0:=hB.frozen 0
    have hf1:=hB.frozen 1
    have hf2:=hB.frozen 2
    have hf3:=hB.frozen 3
    have hf4:=hB.frozen 4
    have hf5:=hB.frozen 5
    go_wp2_with fail
    refine bodyPost_ret (v:=.tuple #[.agg #[.bool false,.slice none 0 0,.slice none 0 0,.bool false,.slice none 0 0,.slice none 0 0],.bool false]) (by simp[results,Tryz.results7,go_sem,x0,x1,x2,x3,x4,x5]) rfl ⟨.inr ⟨hno.out,rfl⟩,slc⟩
 ·rw[if_neg h44]at hcut0
  have hcut:Lib.cut s.data.toList (sb [44]).data.toList=(zH 44 (bl s),[],false):=by rw[kg h44];exact hcut0
  have hs2:(sb []).size<=1048576:=by rw[zt];decide
  replace h44:=Lib.hid h44
  clear hcut0 hsz
  go_enter Tryz.func7,Tryz.ntmps7
  go_upto_region 1 with (fail)
  refine qe (λW=>Bl w W/\∃r,Wk 6 28 r W/\r=w.heap.size) ⟨slc,_,by exact bts,rfl⟩ ?_
  rintro W0 ⟨hbW,r,hr,hre⟩
  rw[<-hre]
  have hrw:w.heap.size<=r:=by omega
  clear hre
  go_wp2_with (first
   | (go_at_call 37;refine(Tryz.strings_Cut s (sb [44]) mx _ (by omega) ((Bl.qeV hbW (YA hmx.out)).trans hmx.out)).mono ?_;rw[hcut];rintro e w1 ⟨rfl,hq1⟩;have hb1:=vV hq1;clear hq1)
   | (go_at_call 38;refine(jd w1 (sb (zH 44 (bl s))) hs1 (hE.out.bl (hbW.next hb1))).mono ?_))
  rintro e w2 ⟨(⟨hT1,s1,A1,n1,c1,B1,m1,d1,rfl,hO1⟩ |⟨hT1,rfl⟩),hb2⟩
  ·go_upto_region 3 with (fail)
   refine qe (λW=>Bl w2 W/\∃g,Blk W g 26 #[.bool s1,.slice A1 n1 c1,.slice B1 m1 d1]/\g=w2.heap.size) ⟨slc,_,by exact bts,rfl⟩ ?_
   rintro W2 ⟨hb3,g,hgx,hge⟩
   rw[<-hge]
   have hgw:w2.heap.size<=g:=by omega
   clear hge
   have hbw2:Bl w W2:=((hbW.next hb1).next hb2).next hb3
   have hbr2:Bl W0 W2:=(hb1.next hb2).next hb3
   go_wp2_with (go_at_call 38;refine(jd W2 (sb ([])) hs2 (hE.out.bl hbw2)).mono ?_)
   rintro e w4 ⟨(⟨hT2,s2,A2,n2,c2,B2,m2,d2,rfl,hO2⟩ |⟨hT2,rfl⟩),hb4⟩
   ·go_upto_region 4 with (fail)
    refine qe (λW=>Bl w4 W/\∃k,Blk W k 26 #[.bool s2,.slice A2 n2 c2,.slice B2 m2 d2]/\k=w4.heap.size) ⟨slc,_,by exact bts,rfl⟩ ?_
    rintro W4 ⟨hb5,k,hkx,hke⟩
    rw[<-hke]
    have hkw:w4.heap.size<=k:=by omega
    clear hke
    have hbw4:=hbw2.next (hb4.next hb5)
    have hgx4:=hgx.bl (hb4.next hb5)
    have hno:Hid (¬PtT (bl s)):=Lib.hid (λh=>h44.out h.1)
    have hr2:=hr.bl (hbr2.next (hb4.next hb5))
    obtain⟨v0,x0⟩:=hr2.val_ (i:=0) (by omega)
    obtain⟨v1,x1⟩:=hr2.val_ (i:=1) (by omega)
    obtain⟨v2,x2⟩:=hr2.val_ (i:=2) (by omega)
    obtain⟨v3,x3⟩:=hr2.val_ (i:=3) (by omega)
    obtain⟨v4,x4⟩:=hr2.val_ (i:=4) (by omega)
    obtain⟨v5,x5⟩:=hr2.val_ (i:=5) (by omega)
    have hgr:=hr2.lt
    have hB:=hr2.blk
    have hf0:=hB.frozen 0
    have hf1:=hB.frozen 1
    have hf2:=hB.frozen 2
    have hf3:=hB.frozen 3
    have hf4:=hB.frozen 4
    have hf5:=hB.frozen 5
    go_wp2_with fail
    refine bodyPost_ret (v:=.tuple #[.agg #[.bool false,.slice none 0 0,.slice none 0 0,.bool false,.slice none 0 0,.slice none 0 0],.bool false]) (by simp[results,Tryz.results7,go_sem,x0,x1,x2,x3,x4,x5]) rfl ⟨.inr ⟨hno.out,rfl⟩,slc⟩
   ·go_upto_region 4 with (fail)
    refine qe (λW=>Bl w4 W/\∃k,Blk W k 26 #[.bool false,.slice none 0 0,.slice none 0 0]/\k=w4.heap.size) ⟨slc,_,by exact bts,rfl⟩ ?_
    rintro W4 ⟨hb5,k,hkx,hke⟩
    rw[<-hke]
    have hkw:w4.heap.size<=k:=by omega
    clear hke
    have hbw4:=hbw2.next (hb4.next hb5)
    have hgx4:=hgx.bl (hb4.next hb5)
    have hno:Hid (¬PtT (bl s)):=Lib.hid (λh=>h44.out h.1)
    have hr2:=hr.bl (hbr2.next (hb4.next hb5))
    obtain⟨v0,x0⟩:=hr2.val_ (i:=0) (by omega)
    obtain⟨v1,x1⟩:=hr2.val_ (i:=1) (by omega)
    obtain⟨v2,x2⟩:=hr2.val_ (i:=2) (by omega)
    obtain⟨v3,x3⟩:=hr2.val_ (i:=3) (by omega)
    obtain⟨v4,x4⟩:=hr2.val_ (i:=4) (by omega)
    obtain⟨v5,x5⟩:=hr2.val_ (i:=5) (by omega)
    have hgr:=hr2.lt
    have hB:=hr2.blk
    have hf0:=hB.frozen 0
    have hf1:=hB.frozen 1
    have hf2:=hB.frozen 2
    have hf3:=hB.frozen 3
    have hf4:=hB.frozen 4
    have hf5:=hB.frozen 5
    go_wp2_with fail
    refine bodyPost_ret (v:=.tuple #[.agg #[.bool false,.slice none 0 0,.slice none 0 0,.bool false,.slice none 0 0,.slice none 0 0],.bool false]) (by simp[results,Tryz.results7,go_sem,x0,x1,x2,x3,x4,x5]) rfl ⟨.inr ⟨hno.out,rfl⟩,slc⟩
  ·go_upto_region 3 with (fail)
   refine qe (λW=>Bl w2 W/\∃g,Blk W g 26 #[.bool false,.slice none 0 0,.slice none 0 0]/\g=w2.heap.size) ⟨slc,_,by exact bts,rfl⟩ ?_
   rintro W2 ⟨hb3,g,hgx,hge⟩
   rw[<-hge]
   have hgw:w2.heap.size<=g:=by omega
   clear hge
   have hbw2:Bl w W2:=((hbW.next hb1).next hb2).next hb3
   have hbr2:Bl W0 W2:=(hb1.next hb2).next hb3
   go_wp2_with (go_at_call 38;refine(jd W2 (sb ([])) hs2 (hE.out.bl hbw2)).mono ?_)
   rintro e w4 ⟨(⟨hT2,s2,A2,n2,c2,B2,m2,d2,rfl,hO2⟩ |⟨hT2,rfl⟩),hb4⟩
   ·go_upto_region 4 with (fail)
    refine qe (λW=>Bl w4 W/\∃k,Blk W k 26 #[.bool s2,.slice A2 n2 c2,.slice B2 m2 d2]/\k=w4.heap.size) ⟨slc,_,by exact bts,rfl⟩ ?_
    rintro W4 ⟨hb5,k,hkx,hke⟩
    rw[<-hke]
    have hkw:w4.heap.size<=k:=by omega
    clear hke
    have hbw4:=hbw2.next (hb4.next hb5)
    have hgx4:=hgx.bl (hb4.next hb5)
    have hno:Hid (¬PtT (bl s)):=Lib.hid (λh=>h44.out h.1)
    have hr2:=hr.bl (hbr2.next (hb4.next hb5))
    obtain⟨v0,x0⟩:=hr2.val_ (i:=0) (by omega)
    obtain⟨v1,x1⟩:=hr2.val_ (i:=1) (by omega)
    obtain⟨v2,x2⟩:=hr2.val_ (i:=2) (by omega)
    obtain⟨v3,x3⟩:=hr2.val_ (i:=3) (by omega)
    obtain⟨v4,x4⟩:=hr2.val_ (i:=4) (by omega)
    obtain⟨v5,x5⟩:=hr2.val_ (i:=5) (by omega)
    have hgr:=hr2.lt
    have hB:=hr2.blk
    have hf0:=hB.frozen 0
    have hf1:=hB.frozen 1
    have hf2:=hB.frozen 2
    have hf3:=hB.frozen 3
    have hf4:=hB.frozen 4
    have hf5:=hB.frozen 5
    go_wp2_with fail
    refine bodyPost_ret (v:=.tuple #[.agg #[.bool false,.slice none 0 0,.slice none 0 0,.bool false,.slice none 0 0,.slice none 0 0],.bool false]) (by simp[results,Tryz.results7,go_sem,x0,x1,x2,x3,x4,x5]) rfl ⟨.inr ⟨hno.out,rfl⟩,slc⟩
   ·go_upto_region 4 with (fail)
    refine qe (λW=>Bl w4 W/\∃k,Blk W k 26 #[.bool false,.slice none 0 0,.slice none 0 0]/\k=w4.heap.size) ⟨slc,_,by exact bts,rfl⟩ ?_
    rintro W4 ⟨hb5,k,hkx,hke⟩
    rw[<-hke]
    have hkw:w4.heap.size<=k:=by omega
    clear hke
    have hbw4:=hbw2.next (hb4.next hb5)
    have hgx4:=hgx.bl (hb4.next hb5)
    have hno:Hid (¬PtT (bl s)):=Lib.hid (λh=>h44.out h.1)
    have hr2:=hr.bl (hbr2.next (hb4.next hb5))
    obtain⟨v0,x0⟩:=hr2.val_ (i:=0) (by omega)
    obtain⟨v1,x1⟩:=hr2.val_ (i:=1) (by omega)
    obtain⟨v2,x2⟩:=hr2.val_ (i:=2) (by omega)
    obtain⟨v3,x3⟩:=hr2.val_ (i:=3) (by omega)
    obtain⟨v4,x4⟩:=hr2.val_ (i:=4) (by omega)
    obtain⟨v5,x5⟩:=hr2.val_ (i:=5) (by omega)
    have hgr:=hr2.lt
    have hB:=hr2.blk
    have hf0:=hB.frozen 0
    have hf1:=hB.frozen 1
    have hf2:=hB.frozen 2
    have hf3:=hB.frozen 3
    have hf4:=hB.frozen 4
    have hf5:=hB.frozen 5
    go_wp2_with fail
    refine bodyPost_ret (v:=.tuple #[.agg #[.bool false,.slice none 0 0,.slice none 0 0,.bool false,.slice none 0 0,.slice none 0 0],.bool false]) (by simp[results,Tryz.results7,go_sem,x0,x1,x2,x3,x4,x5]) rfl ⟨.inr ⟨hno.out,rfl⟩,slc⟩
section
variable {x0 y0 x1 y1 x2 y2 u v:Rat}
end
noncomputable def ptx (p:PtD):List UInt8:=rtx (rn p.x) (rd p.x)++44::rtx (rn p.y) (rd p.y)
theorem Js {x:Int}{D:Nat}(h:okR (raw x D)=true):rtx x D=ftx x D:=by unfold rtx;rw[if_pos h]
theorem qaW (x:Int) (D:Nat):(44:UInt8)∉ftx x D:=Xs x D (by decide) (by decide) (by decide)
theorem qa8 (x:Int) (D:Nat):qv (ftx x D)=raw x D:=by
 obtain⟨h1,h2⟩:=xP x D
 unfold qv
 rw[h1,h2,km,qaL]
theorem qaj {p:PtD}(h:OkP p):PtT (ptx p)/\qp (ptx p)=p:=by
 obtain⟨h1,h2⟩:=h
 have e1:=h1.get.1
 have e2:=h2.get.1
 have o1:okR (raw (rn p.x) (rd p.x))=true:=by rw[<-e1];exact zM h1
 have o2:okR (raw (rn p.y) (rd p.y))=true:=by rw[<-e2];exact zM h2
 have et:ptx p=ftx (rn p.x) (rd p.x)++44::ftx (rn p.y) (rd p.y):=by unfold ptx;rw[Js o1,Js o2]
 obtain⟨c1,c2⟩:=Ye (c:=44) (b:=ftx (rn p.y) (rd p.y)) (qaW (rn p.x) (rd p.x))
 rw[et]
 refine⟨⟨by simp,?_,?_⟩,?_⟩
 ·rw[c1];exact⟨_,_,o1,rfl⟩
 ·rw[c2];exact⟨_,_,o2,rfl⟩
 ·unfold qp
  rw[c1,c2,qa8,qa8,<-e1,<-e2]
theorem vX {x:Int}{D:Nat}(h:okR (raw x D)=true):(ftx x D).length<=1100:=by
 obtain⟨_,_,_,h5,h6⟩:=(jU.1 h).get
 rw[uF]at h5
 rw[Ub]at h6
 have h1:=kD (x:=x) (by omega)
 have h2:=kf h6
 unfold ftx
 split
 ·omega
 ·rw[List.length_append,List.length_cons];omega
theorem uq {p:PtD}(h:OkP p):(ptx p).length<=2201:=by
 obtain⟨h1,h2⟩:=h
 have o1:okR (raw (rn p.x) (rd p.x))=true:=by rw[<-h1.get.1];exact zM h1
 have o2:okR (raw (rn p.y) (rd p.y))=true:=by rw[<-h2.get.1];exact zM h2
 have l1:=vX o1
 have l2:=vX o2
 unfold ptx
 rw[Js o1,Js o2,List.length_append,List.length_cons]
 omega
noncomputable def lnP (p:PtD):List UInt8:=112::32::(ptx p++[10])
def fld (l:List Nat):List UInt8:=l.flatMap λn=>32::dD n
def trN (t:qC):List Nat:=[t.a.toNat,t.b.toNat,t.c.toNat,t.region.toNat,t.level.toNat]
def lnT (t:qC):List UInt8:=116::(fld (trN t)++[10])
noncomputable def xT (l:List PtD):List UInt8:=l.flatMap lnP
def Ym (l:List qC):List UInt8:=l.flatMap lnT
noncomputable def VV (L:List PtD) (ts:List qC):List UInt8:=xT L++Ym ts
def qaJ (t:qC):Prop:=(0<=t.a/\t.a<=1000)/\(0<=t.b/\t.b<=1000)/\(0<=t.c/\t.c<=1000)/\(0<=t.region/\t.region<=1000)/\0<=t.level/\t.level<=1000
theorem uW {α:Type} [Inhabited α] {l:List α}{k:Nat}(h:k<l.length):l.drop k=pix l k::l.drop (k+1):=by
 rw[List.drop_eq_getElem_cons h]
 simp[pix,h]
theorem qcB {l:List Nat}{k:Nat}(h:k<l.length):l.drop k=dx l k::l.drop (k+1):=by
 rw[List.drop_eq_getElem_cons h]
 simp[dx,h]
theorem UK {l:List PtD}{k:Nat}(h:k<l.length):xT (l.drop k)=lnP (pix l k)++xT (l.drop (k+1)):=by
 rw[uW h];rfl
theorem UD {l:List qC}{k:Nat}(h:k<l.length):Ym (l.drop k)=lnT (pix l k)++Ym (l.drop (k+1)):=by
 rw[uW h];rfl
theorem qag {l:List Nat}{k:Nat}(h:k<l.length):fld (l.drop k)=32::dD (dx l k)++fld (l.drop (k+1)):=by
 rw[qcB h];rfl
theorem ZM {α:Type}{f:α->List UInt8}{B:Nat}:∀(l:List α),(∀x∈l,(f x).length<=B)->(l.flatMap f).length<=l.length*B
 | [],_=>by simp
 | x::l,h=>by
  have h1:=ZM l λy hy=>h y (List.mem_cons_of_mem _ hy)
  have h2:=h x List.mem_cons_self
  rw[List.flatMap_cons,List.length_append,List.length_cons,Nat.succ_mul]
  omega
theorem ue {α:Type} [Inhabited α] {l:List α}{x:α}(h:x∈l):∃k,k<l.length/\pix l k=x:=by
 obtain⟨k,hk,rfl⟩:=List.getElem_of_mem h
 exact⟨k,hk,by simp[pix,hk]⟩
theorem qct {p:PtD}(h:OkP p):(lnP p).length<=2204:=by
 have:=uq h
 unfold lnP
 simp only[List.length_cons,List.length_append,List.length_nil]
 omega
theorem qbG (l:List Nat) (h:∀n∈l,n<=1000):(fld l).length<=l.length*20 :=
 ZM l λn hn=>by
  have:=yx (N:=n) (by have:=h n hn;omega)
  rw[List.length_cons]
  omega
theorem qaJ.le {t:qC}(h:qaJ t):∀n∈trN t,n<=1000:=by
 obtain⟨h1,h2,h3,h4,h5⟩:=h
 intro n hn
 simp only[trN,List.mem_cons,List.not_mem_nil,or_false]at hn
 rcases hn with rfl|rfl|rfl|rfl|rfl <;> omega
theorem um {t:qC}(h:qaJ t):(lnT t).length<=102:=by
 have h1:=qbG (trN t) h.le
 unfold lnT
 simp only[List.length_cons,List.length_append,List.length_nil]
 simp only[trN,List.length_cons,List.length_nil]at h1 ⊢
 omega
theorem Uh {L:List PtD}{ts:List qC}(h1:∀k,k<L.length->OkP (pix L k)) (h2:∀k,k<ts.length->qaJ (pix ts k)) (l1:L.length<=40) (l2:ts.length<=48):(VV L ts).length<=200000:=by
 have a1:=ZM (f:=lnP) L λx hx=>by obtain⟨k,hk,rfl⟩:=ue hx;exact qct (h1 k hk)
 have a2:=ZM (f:=lnT) ts λx hx=>by obtain⟨k,hk,rfl⟩:=ue hx;exact um (h2 k hk)
 unfold VV
 rw[List.length_append]
 unfold xT Ym
 have b1:L.length*2204<=40*2204:=Nat.mul_le_mul_right _ l1
 have b2:ts.length*102<=48*102:=Nat.mul_le_mul_right _ l2
 omega
theorem qdJ {l:List UInt8}{a:Nat}:sg l a l.length=l.drop a:=by
 unfold sg
 first|exact List.take_of_length_le (by rw[List.length_drop];exact Nat.le_refl _) |(rw[List.take_of_length_le (Nat.le_refl _)])|simp
theorem Xb (c:UInt8):∀(k:Nat) (l:List UInt8),l.length<=k->Lib.splitB (sb [c]) 0 (Lib.countB (sb l) (sb [c])) (sb l)=(pcs c l).map sb:=by
 intro k
 induction k with
 | zero=>
  intro l h
  obtain rfl:l=[]:=List.length_eq_zero_iff.1 (by omega)
  have hi:Lib.indexB (sb []) (sb [c])=-1:=(yS (c:=c) []).2 (by simp)
  rw[Lib.countB_miss _ _ hi,Lib.splitB_zero,vL (by simp)]
  rfl
 | succ k ih=>
  intro l h
  by_cases hc:c∈l
  ·have hi:Lib.indexB (sb l) (sb [c])=((zH c l).length:Int):=(yS (c:=c) l).1 hc
   have hj:=JW hc
   have hd:l.drop ((zH c l).length+1)=yT c l:=by
    generalize zH c l=x at hj ⊢
    generalize yT c l=y at hj ⊢
    rw[hj,<-List.drop_drop,List.drop_left]
    rfl
   have ht:l.take (zH c l).length=zH c l:=by
    generalize zH c l=x at hj ⊢
    generalize yT c l=y at hj ⊢
    rw[hj]
    exact List.take_left
   have e1:(sb l).extract ((zH c l).length+(sb [c]).size) (sb l).size=sb (yT c l):=by
    rw[qbh,X7,zt,zt,qdJ,<-hd]
    rfl
   have e2:(sb l).extract 0 ((zH c l).length+0)=sb (zH c l):=by
    rw[qbh,X7]
    unfold sg
    simp only[Nat.add_zero,List.drop_zero]
    rw[ht]
   have hlt:=uS hc
   rw[Lib.countB_hit (sb l) (sb [c]) _ (by rw[zt];exact Nat.le_refl 1) hi,e1,Nat.add_comm,Lib.splitB_hit _ _ _ _ _ hi,e1,e2,ih (yT c l) (by omega),kq hc]
   rfl
  ·have hi:Lib.indexB (sb l) (sb [c])=-1:=(yS (c:=c) l).2 hc
   rw[Lib.countB_miss _ _ hi,Lib.splitB_zero,vL hc]
   rfl
theorem KM (c:UInt8) (l:List UInt8):Lib.countB (sb l) (sb [c])+1=(pcs c l).length:=by
 rw[<-Lib.splitB_all (sb [c]) (by rw[zt];exact Nat.le_refl 1) 0 _ (sb l) rfl,Xb c _ l (Nat.le_refl _),List.length_map]
theorem Jr {b:UInt8}{d:Nat}(hd:Lib.digitVal b=some d):∀{l:List UInt8}{acc n:Nat},Lib.decFrom acc l=some n->Lib.decFrom acc (l++[b])=some (n*10+d)
 | [],acc,n,h=>by
  simp only[Lib.decFrom,Option.some.injEq]at h
  subst h
  simp[Lib.decFrom,hd]
 | a::t,acc,n,h=>by
  simp only[Lib.decFrom,List.cons_append]at h ⊢
  cases ha:Lib.digitVal a with
  | none=>simp[ha]at h
  | some e=>
   simp only[ha]at h ⊢
   exact Jr hd h
theorem Yo {k:Nat}(h:k<10):Lib.digitVal (dgb k)=some k:=by
 unfold Lib.digitVal
 rw[ZZ h,if_pos (by omega)]
 simp
theorem UG (N:Nat):Lib.decFrom 0 (dD N)=some N:=by
 induction N using Nat.strongRecOn with
 | ind n ih=>
  by_cases hn:n<10
  ·rw[zG hn]
   simp[Lib.decFrom,Yo hn]
  ·rw[QG hn,Jr (Yo (Nat.mod_lt _ (by omega))) (ih (n / 10) (by omega))]
   congr 1
   omega
theorem VI (N:Nat):∀b∈dD N,Z0 b=true:=by
 induction N using Nat.strongRecOn with
 | ind n ih=>
  by_cases hn:n<10
  ·rw[zG hn]
   intro b hb
   rw[List.mem_singleton]at hb
   subst hb
   exact VF hn
  ·rw[QG hn]
   intro b hb
   rcases List.mem_append.1 hb with h|h
   ·exact ih (n / 10) (by omega) b h
   ·rw[List.mem_singleton]at h
    subst h
    exact VF (Nat.mod_lt _ (by omega))
theorem qb4 (N:Nat):Lib.atoi (dD N)=some (N:Int):=by
 have h1:=UG N
 have h2:=VI N
 have h3:=kL N
 cases hd:dD N with
 | nil=>exact absurd hd h3
 | cons b r=>
  rw[hd]at h1 h2
  have hb:=h2 b List.mem_cons_self
  have n1:(b == 45)=false:=by rw[beq_eq_false_iff_ne];intro e;rw[e]at hb;exact absurd hb (by decide)
  have n2:(b == 43)=false:=by rw[beq_eq_false_iff_ne];intro e;rw[e]at hb;exact absurd hb (by decide)
  simp only[Lib.atoi,n1,n2,Bool.false_eq_true,if_false,Lib.decNat,List.isEmpty_cons,h1,Option.map_some]
theorem xF {c:UInt8}:∀(ls:List (List UInt8)),(∀l∈ls,c∉l)->pcs c (ls.flatMap λl=>l++[c])=ls++[[]]
 | [],_=>by rw[List.flatMap_nil,vL (by simp)];rfl
 | l::ls,h=>by
  rw[List.flatMap_cons,List.append_assoc,List.singleton_append,VM (h l List.mem_cons_self),xF ls λx hx=>h x (List.mem_cons_of_mem _ hx)]
  rfl
theorem kM:∀(n:Nat) (ns:List Nat),pcs 32 (dD n++fld ns)=dD n::ns.map dD
 | n,[]=>by
  have:fld []=[]:=rfl
  rw[this,List.append_nil,vL]
  ·rfl
  ·intro h;exact absurd (VI n _ h) (by decide)
 | n,m::ns=>by
  have:fld (m::ns)=32::(dD m++fld ns):=rfl
  rw[this,VM λh=>absurd (VI n _ h) (by decide),kM m ns]
  rfl
noncomputable def lP (p:PtD):List UInt8:=112::32::ptx p
def lT (t:qC):List UInt8:=116::fld (trN t)
noncomputable def lns (L:List PtD) (ts:List qC):List (List UInt8):=L.map lP++ts.map lT
theorem qdb (t:qC):pcs 32 (lT t)=[116]::(trN t).map dD:=by
 have:lT t=[116]++32::(dD t.a.toNat++fld [t.b.toNat,t.c.toNat,t.region.toNat,t.level.toNat]):=rfl
 rw[this,VM (by decide),kM]
 rfl
theorem ku {p:PtD}(h:OkP p) {c:UInt8}(h0:Z0 c=false) (h1:c≠45) (h2:c≠47) (h3:c≠44):c∉ptx p:=by
 obtain⟨k1,k2⟩:=h
 have o1:okR (raw (rn p.x) (rd p.x))=true:=by rw[<-k1.get.1];exact zM k1
 have o2:okR (raw (rn p.y) (rd p.y))=true:=by rw[<-k2.get.1];exact zM k2
 unfold ptx
 rw[Js o1,Js o2]
 intro hm
 rcases List.mem_append.1 hm with m|m
 ·exact Xs _ _ h0 h1 h2 m
 ·rcases List.mem_cons.1 m with m|m
  ·exact h3 m
  ·exact Xs _ _ h0 h1 h2 m
theorem qdw {p:PtD}(h:OkP p):pcs 32 (lP p)=[[112],ptx p]:=by
 have:lP p=[112]++32::ptx p:=rfl
 rw[this,VM (by decide),vL (ku h (by decide) (by decide) (by decide) (by decide))]
theorem qb1 {c:UInt8}(h0:Z0 c=false) (h1:c≠32) (l:List Nat):c∉fld l:=by
 unfold fld
 intro hm
 obtain⟨n,_,hm⟩:=List.mem_flatMap.1 hm
 rcases List.mem_cons.1 hm with m|m
 ·exact h1 m
 ·have:=VI n _ m
  rw[h0]at this
  cases this
theorem qal {L:List PtD}{ts:List qC}(h1:∀k,k<L.length->OkP (pix L k)):pcs 10 (VV L ts)=lns L ts++[[]]:=by
 have e:VV L ts=(lns L ts).flatMap λl=> l ++ [10]:=by
  unfold VV lns xT Ym
  rw[List.flatMap_append,List.flatMap_map,List.flatMap_map]
  rfl
 rw[e,xF]
 intro l hl
 unfold lns at hl
 rcases List.mem_append.1 hl with hl|hl
 ·obtain⟨p,hp,rfl⟩:=List.mem_map.1 hl
  obtain⟨k,hk,rfl⟩:=ue hp
  have:=ku (h1 k hk) (c:=10) (by decide) (by decide) (by decide) (by decide)
  unfold lP
  simp[this]
 ·obtain⟨t,_,rfl⟩:=List.mem_map.1 hl
  have:=qb1 (c:=10) (by decide) (by decide) (trN t)
  unfold lT
  simp[this]
theorem YF (w:World) (c:UInt8) (l:List UInt8) (hl:l.length<=1048576) (hE:Env w) :
  Calls Tryz.prog 59 #[.string (sb l),.string (sb [c])] w λe w'=>∃g,e=.returned (.slice (some ⟨g,0,none⟩) (pcs c l).length (pcs c l).length)/\ur w' (some ⟨g,0,none⟩) (pcs c l).length (pcs c l)/\Bl w w':=by
 obtain⟨_,m,hm⟩:=hE
 refine(Tryz.strings_Split (sb l) (sb [c]) m w (by rw[zt];omega) hm (by rw[zt];exact Nat.le_refl 1)).mono ?_
 rintro e w' ⟨rfl,rfl⟩
 rw[KM,Xb c _ l (Nat.le_refl _)]
 refine⟨_,rfl,⟨rfl,λk hk=>⟨_,rfl,by simp,?_⟩⟩,(Bl.refl w).alloc _⟩
 rw[Addr.add_lit,Nat.zero_add,(Blk.new w _ _).cell k]
 simp[List.getD_eq_getElem?_getD,hk]
theorem xe (w:World) (N:Nat) (hN:N<=1000) (hE:Env w) :
  Calls Tryz.prog 120 #[.string (sb (dD N))] w λe w'=>e=.returned (.tuple #[.int .i64 (N:Int),.bool true])/\Bl w w':=by
 have hl:(dD N).length<=18:=Nat.le_trans (ZT (k:=4) (by omega) (by omega)) (by omega)
 have ha:=λW=>Tryz.strconv_Atoi (sb (dD N)) (N:Int) (by rw[zt];exact hl) (qb4 N) W
 replace ha:=Lib.hid ha
 replace hE:=Lib.hid hE
 go_enter Tryz.func120,Tryz.ntmps120
 go_wp2_with (first
  | (go_at_call 167;refine(ha.out _).mono ?_;rintro e w1 ⟨rfl,t,rfl⟩;have hb1:=Lib.bytesWorld_below w 5 t)
  | (go_at_call 77;refine(zu _ N (by omega) (hE.out.bl hb1)).mono ?_;rintro e w2 ⟨rfl,hb2⟩;have hb3:=Bl.next hb1 hb2))
 go_ret2
 exact⟨rfl,hb3⟩
theorem Y3 (w:World) {l:List UInt8}{ls:List (List UInt8)}(h:pcs 10 l=ls++[[]]) (hl:l.length<=1048576) (hn:ls.length<=1048576) (hE:Env w) :
  Calls Tryz.prog 58 #[.string (sb l)] w λe w'=>∃g c,e=.returned (.slice (some ⟨g,0,none⟩) ls.length c)/\ur w' (some ⟨g,0,none⟩) ls.length ls/\Bl w w':=by
 have hs:=YF w 10 l hl hE
 rw[h,List.length_append,List.length_singleton]at hs
 replace hs:=Lib.hid hs
 have hS:(⟨#[10]⟩:ByteArray)=sb [10]:=rfl
 obtain⟨n,hnn⟩:∃n,ls.length=n:=⟨_,rfl⟩
 rw[hnn]at hs hn ⊢
 have e1:((n+1:Nat):Int)-1=(n:Int):=by omega
 have e2:(n:Int)<((n+1:Nat):Int):=by omega
 have e3:(n:Int)<=((n+1:Nat):Int):=by omega
 have e4:n<=n+1:=by omega
 go_enter Tryz.func58,Tryz.ntmps58
 go_upto_region 2 with (go_at_call 59;refine hs.out.mono ?_;rintro e w1 ⟨g,rfl,hr,hb1⟩)
 obtain⟨_,e0,hlt,hc⟩:=hr.2 n (by omega)
 cases e0
 have hx:(ls++[([]:List UInt8)]).getD n []=[]:=by rw[<-hnn];simp[List.getD_eq_getElem?_getD]
 rw[Addr.add_lit,Nat.zero_add,hx]at hc
 have hz:(sb []).toList.isEmpty=true:=by rw[jD];rfl
 go_wp2_with fail
 go_ret
 refine⟨g,⟨_,rfl⟩,⟨hnn,λk hk=>?_⟩,hb1⟩
 obtain⟨ad,e0,hlt,hc⟩:=hr.2 k (by omega)
 refine⟨ad,e0,hlt,?_⟩
 rw[hc]
 simp[List.getD_eq_getElem?_getD,List.getElem?_append_left (show k<ls.length by omega)]
def trv (ns:List Nat) (k:Nat) (i:Nat):Int:=if i<k then ((dx ns i:Nat):Int)else 0
theorem qeU {w:World}{g gs:Nat}{T:TypeId}(h:Blk w g T #[.pointer (some ⟨gs,0,none⟩),.pointer (some ⟨gs,1,none⟩),.pointer (some ⟨gs,2,none⟩),.pointer (some ⟨gs,3,none⟩),.pointer (some ⟨gs,4,none⟩)]) {i:Nat}(hi:i<5):w.cell? ⟨g,i,none⟩=some (.pointer (some ⟨gs,i,none⟩)):=by
 rw[h.cell i]
 rcases(show i=0\/i=1\/i=2\/i=3\/i=4 by omega)with rfl|rfl|rfl|rfl|rfl <;> rfl
theorem uw {w:World}{g:Nat}{T:TypeId}{v0 v1 v2 v3 v4:Value}(h:Blk w g T #[v0,v1,v2,v3,v4]) {i:Nat}(hi:i<5):∃v,w.cell? ⟨g,i,none⟩=some v:=by
 rw[h.cell i]
 rcases(show i=0\/i=1\/i=2\/i=3\/i=4 by omega)with rfl|rfl|rfl|rfl|rfl <;> exact⟨_,rfl⟩
theorem qbD (ns:List Nat) {k:Nat}(hk:k<5):(#[.int .i64 (trv ns k 0),.int .i64 (trv ns k 1),.int .i64 (trv ns k 2),.int .i64 (trv ns k 3),.int .i64 (trv ns k 4)]:Array Value).setIfInBounds k (.int .i64 ((dx ns k:Nat):Int))=#[.int .i64 (trv ns (k+1) 0),.int .i64 (trv ns (k+1) 1),.int .i64 (trv ns (k+1) 2),.int .i64 (trv ns (k+1) 3),.int .i64 (trv ns (k+1) 4)]:=by
 rcases(show k=0\/k=1\/k=2\/k=3\/k=4 by omega)with rfl|rfl|rfl|rfl|rfl <;> simp[trv]
theorem ud (w:World) {A:Option Addr}{c:Nat}{t:qC}(h:ur w A 5 ((trN t).map dD)) (ht:qaJ t) (hE:Env w) :
  Calls Tryz.prog 60 #[.slice A 5 c] w λe w'=>e=.returned (.tuple #[.agg #[.int .i64 t.a,.int .i64 t.b,.int .i64 t.c,.int .i64 t.region,.int .i64 t.level],.bool true])/\Bl w w':=by
 replace hE:=Lib.hid hE
 have hS:=Lib.hid ht;clear ht
 obtain⟨ad,rfl,hadl,_⟩:=h.2 0 (by omega)
 go_enter Tryz.func60,Tryz.ntmps60
 go_upto_region 5 with (fail)
 refine qe (λW=>Bl w W/\∃g2 g4 g5,Wk 5 83 g2 W/\Blk W g4 83 #[.int .i64 0,.int .i64 0,.int .i64 0,.int .i64 0,.int .i64 0]/\Blk W g5 139 #[.pointer (some ⟨g4,0,none⟩),.pointer (some ⟨g4,1,none⟩),.pointer (some ⟨g4,2,none⟩),.pointer (some ⟨g4,3,none⟩),.pointer (some ⟨g4,4,none⟩)]/\w.heap.size<=g2/\g2<g4/\g4<g5/\g2=w.heap.size/\g4=w.heap.size+1/\g5=w.heap.size+1+1) ⟨by exact slc,_,_,_,by exact bts,by exact bts,by exact bts,by omega,by omega,by omega,rfl,rfl,rfl⟩ ?_
 rintro W0 ⟨hb0,g2,g4,g5,hk2,hg4,hg5,hw2,h24,h45,e2,e4,e5⟩
 rw[<-e5,<-e4,<-e2]
 clear e2 e4 e5
 have hv:Blk W0 g4 83 #[.int .i64 (trv (trN t) 0 0),.int .i64 (trv (trN t) 0 1),.int .i64 (trv (trN t) 0 2),.int .i64 (trv (trN t) 0 3),.int .i64 (trv (trN t) 0 4)]:=hg4
 go_wp2_with fail
 clear hg4
 go_loopw [25] (λv wr=>∃k:Nat,k<=5/\v=.int .i64 (k:Int)/\Wk 5 83 g2 wr/\Blk wr g4 83 #[.int .i64 (trv (trN t) k 0),.int .i64 (trv (trN t) k 1),.int .i64 (trv (trN t) k 2),.int .i64 (trv (trN t) k 3),.int .i64 (trv (trN t) k 4)]/\Blk wr g5 139 #[.pointer (some ⟨g4,0,none⟩),.pointer (some ⟨g4,1,none⟩),.pointer (some ⟨g4,2,none⟩),.pointer (some ⟨g4,3,none⟩),.pointer (some ⟨g4,4,none⟩)]/\Bl w wr) (λv _=>5-(intOf v).toNat)
 case atStart=>exact⟨0,Nat.zero_le _,rfl,hk2,hv,hg5,hb0⟩
 case round=>
  clear hk2 hv hg5 hb0
  obtain⟨k,hk,rfl,hk2,hv,hg5,hbw⟩:=hrel
  obtain⟨wo,rfl⟩:∃wo:World,wo=wr:=⟨_,rfl⟩
  by_cases hk5:k<5
  ·have hki:(k:Int)<5:=by omega
   obtain⟨_,e0,hlt,hcw⟩:=(h.bl hbw).2 k hk5
   cases e0
   have hN:dx (trN t) k<=1000:=hS.out.le _ (by simp[dx,List.getD_eq_getElem?_getD,trN,hk5])
   have hwd:((trN t).map dD).getD k []=dD (dx (trN t) k):=by rcases(show k=0\/k=1\/k=2\/k=3\/k=4 by omega)with e|e|e|e|e <;> rw[e] <;> rfl
   have hset:=Lib.hid (qbD (trN t) hk5)
   rw[hwd]at hcw
   have hcp:=qeU hg5 hk5
   clear hwd hlt
   generalize dx (trN t) k=N at hcw hN hset
   obtain⟨vk,hvk⟩:=uw hv hk5
   go_wp2_with (go_at_call 120;refine(xe _ N hN (hE.out.bl (hbw.next (by exact slc)))).mono ?_;rintro en w1 ⟨rfl,hb1⟩;have hv1:=hv.bl hb1;have hfz:=hv1.frozen k;obtain⟨vk1,hvk1⟩:=uw hv1 hk5)
   go_roundw
   case rel=>exact⟨k+1,by omega,by go_num,(hk2.bl hb1).far (by simp;omega) _,by rw[<-hset.out];exact hv1.set_ k _,(hg5.bl hb1).far (by simp;omega) _,Bl.set (hbw.next hb1) (by simp;omega) _⟩
   case measure=>simp[intOf];omega
  ·obtain rfl:k=5:=by omega
   have e5:((5:Nat):Int)=5:=rfl
   rw[e5]
   have hfin:Blk wo g4 83 #[.int .i64 t.a,.int .i64 t.b,.int .i64 t.c,.int .i64 t.region,.int .i64 t.level]:=by
    have e:∀z:Int,0<=z->((z.toNat:Nat):Int)=z:=λz hz=>by omega
    obtain⟨⟨h1,_⟩,⟨h2,_⟩,⟨h3,_⟩,⟨h4,_⟩,h5,_⟩:=hS.out
    simpa [trv,trN,dx,e _ h1,e _ h2,e _ h3,e _ h4,e _ h5]using hv
   obtain⟨y0,y1,y2,y3,y4⟩:=bx5 hfin
   obtain⟨v0,z0⟩:=hk2.val_ (i:=0) (by omega)
   obtain⟨v1,z1⟩:=hk2.val_ (i:=1) (by omega)
   obtain⟨v2,z2⟩:=hk2.val_ (i:=2) (by omega)
   obtain⟨v3,z3⟩:=hk2.val_ (i:=3) (by omega)
   obtain⟨v4,z4⟩:=hk2.val_ (i:=4) (by omega)
   have hgr:=hk2.lt
   have hB:=hk2.blk
   have hf0:=hB.frozen 0
   have hf1:=hB.frozen 1
   have hf2:=hB.frozen 2
   have hf3:=hB.frozen 3
   have hf4:=hB.frozen 4
   clear hv hg5
   go_wp2_with fail
   refine bodyPost_ret (v:=.tuple #[.agg #[.int .i64 t.a,.int .i64 t.b,.int .i64 t.c,.int .i64 t.region,.int .i64 t.level],.bool true]) (by simp[results,Tryz.results60,go_sem,z0,z1,z2,z3,z4]) rfl ⟨rfl,slc⟩
theorem Yl (w:World) {s:Bool}{A:Option Addr}{n c:Nat}{B:Option Addr}{m d:Nat}{t:Bool}{C:Option Addr}{i e:Nat}{D:Option Addr}{j f:Nat}{p:PtD}(h:RdR w s A n c B m d p.x) (k:RdR w t C i e D j f p.y) (ho:OkP p) (hE:Env w) :
  Calls Tryz.prog 12 #[.agg #[.bool s,.slice A n c,.slice B m d,.bool t,.slice C i e,.slice D j f]] w λen w'=>en=.returned (.string (sb (ptx p)))/\Bl w w':=by
 have hE:=Lib.hid hE;rename_i hE_;clear hE_
 have o1:okR (raw (rn p.x) (rd p.x))=true:=by rw[<-ho.1.get.1];exact zM ho.1
 have o2:okR (raw (rn p.y) (rd p.y))=true:=by rw[<-ho.2.get.1];exact zM ho.2
 have l1:=vX o1
 have l2:=vX o2
 rw[<-Js o1]at l1
 rw[<-Js o2]at l2
 have hX:=IsR.out h ho.1
 have hY:=IsR.out k ho.2
 obtain⟨-,-,-,q1,q2⟩:=ho.1.get
 obtain⟨-,-,-,q3,q4⟩:=ho.2.get
 have hn:n<=60:=by have:=hX.num.lenN;omega
 have hm:m<=60:=by have:=hX.dn.lenN;omega
 have hi:i<=60:=by have:=hY.num.lenN;omega
 have hj:j<=60:=by have:=hY.dn.lenN;omega
 have hf1:∀W,Bl w W->Calls Tryz.prog 45 #[.agg #[.bool s,.slice A n c,.slice B m d]] W λen w'=>en=.returned (.string (sb (rtx (rn p.x) (rd p.x))))/\Bl W w':=λW hb=>zS _ (RdR.bl hX hb) (by omega) (by omega) (hE.out.bl hb)
 have hf2:∀W,Bl w W->Calls Tryz.prog 45 #[.agg #[.bool t,.slice C i e,.slice D j f]] W λen w'=>en=.returned (.string (sb (rtx (rn p.y) (rd p.y))))/\Bl W w':=λW hb=>zS _ (RdR.bl hY hb) (by omega) (by omega) (hE.out.bl hb)
 have hpt:Hid (ptx p=rtx (rn p.x) (rd p.x)++44::rtx (rn p.y) (rd p.y)):=Lib.hid rfl
 generalize rtx (rn p.x) (rd p.x)=tx at hf1 hpt l1
 generalize rtx (rn p.y) (rd p.y)=ty at hf2 hpt l2
 have hf1:=Lib.hid hf1;rename_i hf1_;clear hf1_
 have hf2:=Lib.hid hf2;rename_i hf2_;clear hf2_
 have hadd1:∀W,(Op.stringOp .add (sb tx) ⟨#[44]⟩).run Tryz.prog W=.ok (.string (sb (tx++[44]))) W:=λW=>jf (P:=Tryz.prog) W tx [44] (by omega) (by simp)
 have hadd2:=λW=>jf (P:=Tryz.prog) W (tx++[44]) ty (by rw[List.length_append,List.length_singleton];omega) (by omega)
 have hoH:=Lib.hid ho
 clear q1 q2 q3 q4 o1 o2 ho hX hY hn hm hi hj
 go_enter Tryz.func12,Tryz.ntmps12
 go_upto_region 1 with (fail)
 refine qe (λW=>Bl w W/\∃g,Blk W g 28 #[.bool s,.slice A n c,.slice B m d,.bool t,.slice C i e,.slice D j f]/\g=w.heap.size) ⟨slc,_,by exact bts,rfl⟩ ?_
 rintro W0 ⟨hb0,g,hg,hge⟩
 rw[<-hge]
 clear hge
 obtain⟨x0,x1,x2,x3,x4,x5⟩:=bx6 hg
 go_wp2_with (go_at_call 44;refine(Ql W0 (h.bl hb0) (k.bl hb0) hoH.out).mono ?_;rintro en w1 ⟨rfl,hb1⟩)
 have hg:=hg.bl hb1
 have hbw1:=hb0.next hb1
 clear x0 x1 x2 x3 x4 x5 hb0 hb1
 go_region_held3 (λw'=>(w'.cell? ⟨g,0,none⟩=some (.bool s)/\w'.cell? ⟨g,1,none⟩=some (.slice A n c)/\w'.cell? ⟨g,2,none⟩=some (.slice B m d)/\w'.cell? ⟨g,3,none⟩=some (.bool t)/\w'.cell? ⟨g,4,none⟩=some (.slice C i e)/\w'.cell? ⟨g,5,none⟩=some (.slice D j f))) (first|exact(bx6 (T:=28) bts)) (first |(go_at_call 45;with_reducible refine(hf1.out _ (show Bl w _ from slc)).mono ?_;rintro e w3 ⟨rfl,hb3⟩) |(go_at_call 45;with_reducible refine(hf2.out _ (show Bl w _ from slc)).mono ?_;rintro e w4 ⟨rfl,hb4⟩))
 all_goals (go_wp2_with fail)
 all_goals go_ret
 all_goals exact⟨by rw[hpt.out];first|rfl |(rw[List.append_assoc];rfl),slc⟩
end Go.Proofs.YtjaapemopbbfaaaGreatDoor
