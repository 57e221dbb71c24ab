/- Lemmas. -/
import Derived.Test.YtjaapemopbbfaaaGreatDoorRows
import Derived.Test.YtjaapemopbbfaaaGreatDoorPParsePointM34
import Derived.Test.YtjaapemopbbfaaaGreatDoorPParsePointM18
namespace Go.Proofs.YtjaapemopbbfaaaGreatDoor
section
open Go.RowKit

set_option maxHeartbeats 25600000 in
set_option maxRecDepth 100000 in
theorem FnExactParsePoint_any (w : World) (s : ByteArray) (hE : Env w) :
    Calls Tryz.prog 3 #[.string s] w fun en w' => en = .returned (.bool true) ∧ Bl w w' := by
  have hE := Lib.hid hE; rename_i hE_; clear hE_
  by_cases hs : s.size ≤ 1048576
  · have hi : ¬ (1048576 : Int) < (s.size : Int) := by omega
    have hl := Lib.hid (ptV_len (bl s))
    go_enter Tryz.func3, Tryz.ntmps3
    go_upto_region 4 with (go_at_call 6; refine (sParsePoint_one _ s hs).mono ?_; rintro en w1 ⟨s1, A1, n1, c1, B1, m1, d1, t1, C1, i1, e1, D1, j1, f1, rfl, hR1, hb1⟩)
    refine wp_gen (fun W => Bl w1 W ∧ ∃ g, Blk W g 28 #[.bool s1, .slice A1 n1 c1, .slice B1 m1 d1, .bool t1, .slice C1 i1 e1, .slice D1 j1 f1] ∧ g = w1.heap.size) ⟨slc, _, by exact bts, rfl⟩ ?_
    rintro Wa ⟨hBa, ga, hga, hge⟩
    rw [← hge]
    have hza : w1.heap.size ≤ ga := by omega
    have hzza : ga ≤ w1.heap.size := by omega
    clear hge
    have hbWa := hb1.next hBa
    have hR1 : RdR Wa s1 A1 n1 c1 B1 m1 d1 (ptV (bl s)).x ∧ RdR Wa t1 C1 i1 e1 D1 j1 f1 (ptV (bl s)).y := ⟨hR1.1.bl hBa, hR1.2.bl hBa⟩
    go_upto_region 5 with (go_at_call 7; refine (ParsePoint_one Wa s hs (hE.out.bl hbWa)).mono ?_; rintro en w2 ⟨s2, A2, n2, c2, B2, m2, d2, t2, C2, i2, e2, D2, j2, f2, rfl, hR2, hb2⟩)
    refine wp_gen (fun W => Bl w2 W ∧ ∃ g, Blk W g 28 #[.bool s2, .slice A2 n2 c2, .slice B2 m2 d2, .bool t2, .slice C2 i2 e2, .slice D2 j2 f2] ∧ g = w2.heap.size) ⟨slc, _, by exact bts, rfl⟩ ?_
    rintro Wb ⟨hBb, gb, hgb, hge⟩
    rw [← hge]
    have hzb : w2.heap.size ≤ gb := by omega
    have hzzb : gb ≤ w2.heap.size := by omega
    clear hge
    have hbab := hb2.next hBb
    have hbWb := hbWa.next hbab
    have hga2 := hga.bl hbab
    have hRx := hR2.bl hBb
    obtain ⟨x0, x1, x2, x3, x4, x5⟩ := bx6 hga2
    obtain ⟨y0, y1, y2, y3, y4, y5⟩ := bx6 hgb
    have hR1b : RdR Wb s1 A1 n1 c1 B1 m1 d1 (ptV (bl s)).x ∧ RdR Wb t1 C1 i1 e1 D1 j1 f1 (ptV (bl s)).y := ⟨hR1.1.bl hbab, hR1.2.bl hbab⟩
    go_upto_region 8 with (go_at_call 8; refine (eqPoint_any Wb hRx.rx hRx.ry hR1b.1 hR1b.2).mono ?_; rintro en w3 ⟨rfl, hb3⟩)
    have hbb3 := hbab.next hb3
    have hga3 := hga2.bl hb3
    have hgb3 := hgb.bl hb3
    have hbW3 := hbWb.next hb3
    clear x0 x1 x2 x3 x4 x5 y0 y1 y2 y3 y4 y5
    obtain ⟨b1, b2, hF1, hF2, hFp⟩ := hR2
    have hn2 : n2 ≤ 1048576 := by have := hF1.rd.mag.len; have := hl.out.1.1; omega
    have hm2 : m2 ≤ 1048576 := by have := hF1.rd.den.len; have := hl.out.1.2; omega
    have hi2 : i2 ≤ 1048576 := by have := hF2.rd.mag.len; have := hl.out.2.1; omega
    have hj2 : j2 ≤ 1048576 := by have := hF2.rd.den.len; have := hl.out.2.2; omega
    have hn24 : n2 ≤ 24 := by have := hF1.rd.mag.len; have := hl.out.1.1; omega
    have hm24 : m2 ≤ 24 := by have := hF1.rd.den.len; have := hl.out.1.2; omega
    have hi24 : i2 ≤ 24 := by have := hF2.rd.mag.len; have := hl.out.2.1; omega
    have hj24 : j2 ≤ 24 := by have := hF2.rd.den.len; have := hl.out.2.2; omega
    have hlo : ∀ b ∈ b1 ++ b2, Wa.heap.size ≤ b ∧ b < gb := fun b hb => by have := hFp.2 b hb; omega
    have hgaz := hga.lt
    have hgbz := hgb.lt
    obtain ⟨y0, y1, y2, y3, y4, y5⟩ := bx6 hgb3
    go_upto_region 10 with (go_at_call 9; refine (markPoint_any w3 (hF1.bl (hBb.next hb3)) (hF2.bl (hBb.next hb3)) hFp.1 hn2 hm2 hi2 hj2 (by omega) (by omega)).mono ?_; rintro en w4 ⟨rfl, hM, hO⟩)
    have hga4 := hga3.ob hO (fun hm' => by have := hlo _ hm'; omega)
    have hgb4 := hgb3.ob hO (fun hm' => by have := hlo _ hm'; omega)
    have hbWa4 : Bl Wa w4 := hbb3.ob hO (fun b hb => (hlo b hb).1)
    have hbW4 : Bl w w4 := hbWa.next hbWa4
    clear y0 y1 y2 y3 y4 y5
    obtain ⟨K, hK⟩ : ∃ K : Int, 1 + (n2 : Int) + (m2 : Int) + (i2 : Int) + (j2 : Int) = K := ⟨_, rfl⟩
    have hK0 : ¬ K < 0 := by omega
    rw [hK]
    obtain ⟨y0, y1, y2, y3, y4, y5⟩ := bx6 hgb4
    go_upto_region 15 with (go_at_call 10; refine (heldPoint_any w4 hM hn2 hm2 hi2 hj2 (by omega) (by omega)).mono ?_; rw [hK]; rintro en w5 ⟨rfl, hb5⟩)
    have hga5 := hga4.bl hb5
    have hgb5 := hgb4.bl hb5
    have hM5 := hM.bl hb5
    have hbWa5 := hbWa4.next hb5
    have hbW5 := hbW4.next hb5
    clear y0 y1 y2 y3 y4 y5
    go_upto_region 16 with (go_at_call 7; refine (ParsePoint_one w5 s hs (hE.out.bl hbW5)).mono ?_; rintro en w6 ⟨s3, A3, n3, c3, B3, m3, d3, t3, C3, i3, e3, D3, j3, f3, rfl, hR3, hb6⟩)
    refine wp_gen (fun W => Bl w6 W ∧ ∃ g, Blk W g 28 #[.bool s3, .slice A3 n3 c3, .slice B3 m3 d3, .bool t3, .slice C3 i3 e3, .slice D3 j3 f3] ∧ g = w6.heap.size) ⟨slc, _, by exact bts, rfl⟩ ?_
    rintro Wc ⟨hBc, gc, hgc, hge⟩
    rw [← hge]
    have hzc : w6.heap.size ≤ gc := by omega
    have hzzc : gc ≤ w6.heap.size := by omega
    clear hge
    have hb56 := hb6.next hBc
    have hga6 := hga5.bl hb56
    have hgb6 := hgb5.bl hb56
    have hM6 := hM5.bl hb56
    have hbWa6 := hbWa5.next hb56
    have hbW6 := hbW5.next hb56
    have hR3x := hR3.bl hBc
    have hR1c : RdR Wc s1 A1 n1 c1 B1 m1 d1 (ptV (bl s)).x ∧ RdR Wc t1 C1 i1 e1 D1 j1 f1 (ptV (bl s)).y := ⟨hR1.1.bl hbWa6, hR1.2.bl hbWa6⟩
    obtain ⟨x0, x1, x2, x3, x4, x5⟩ := bx6 hga6
    obtain ⟨y0, y1, y2, y3, y4, y5⟩ := bx6 hgc
    go_upto_region 19 with (go_at_call 8; refine (eqPoint_any Wc hR3x.rx hR3x.ry hR1c.1 hR1c.2).mono ?_; rintro en w7 ⟨rfl, hb7⟩)
    have hgb7 := hgb6.bl hb7
    have hM7 := hM6.bl hb7
    have hbW7 := hbW6.next hb7
    clear x0 x1 x2 x3 x4 x5 y0 y1 y2 y3 y4 y5
    obtain ⟨y0, y1, y2, y3, y4, y5⟩ := bx6 hgb7
    go_wp2_with (go_at_call 10; refine (heldPoint_any w7 hM7 hn2 hm2 hi2 hj2 (by omega) (by omega)).mono ?_; rw [hK]; rintro en w8 ⟨rfl, hb8⟩)
    go_ret
    exact ⟨rfl, hbW7.next hb8⟩
  · have hi : (1048576 : Int) < (s.size : Int) := by omega
    go_enter Tryz.func3, Tryz.ntmps3
    go_wp2_with fail
    go_ret
    exact ⟨rfl, slc⟩
end

end Go.Proofs.YtjaapemopbbfaaaGreatDoor
