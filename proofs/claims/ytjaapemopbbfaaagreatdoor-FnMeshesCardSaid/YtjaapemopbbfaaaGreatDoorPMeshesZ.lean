/- For every code the law FnMeshes returns true and leaves its argument as it was; the tables that it reads are tied to the program's text. Conditions: none. -/
import Derived.Test.YtjaapemopbbfaaaGreatDoorRows
import Derived.Test.YtjaapemopbbfaaaGreatDoorCards
import Derived.Test.YtjaapemopbbfaaaGreatDoorTie
import Derived.Test.YtjaapemopbbfaaaGreatDoorPMeshesM45
import Derived.Test.YtjaapemopbbfaaaGreatDoorPMeshesM25
import Derived.SevenTiedAt
import Derived.LaidSub
import Derived.Lay
namespace Go.Proofs.YtjaapemopbbfaaaGreatDoor

open Go.ChangeShapes Go.WideShapes Go.ChangeAt Go.RowKit
open Go.ChangeMaps (open_string shut_string)

def qcL : List (String × DataW Unit) := Rows.fnMeshesRow.laid
theorem qav : qcL.filter (λx => ["math/bits.deBruijn32tab", "math/bits.deBruijn64tab", "internal/strconv.uint64pow10"].contains x.1) = qeE := by kernel_rfl
theorem Env.of7 {W : World} (h : laidMetH Tryz.prog qcL W) (hsh : W.ShapedOpen Tryz.prog) : Env W := by
  have h3 := h.filter λx => ["math/bits.deBruijn32tab", "math/bits.deBruijn64tab", "internal/strconv.uint64pow10"].contains x.1
  rw [qav] at h3
  exact Env.of h3 hsh
/-- The witness' world: what the door's run leaves, with the pinned table laid over it. -/
noncomputable def w7 (os : Os) : World := (World.doorLaid Tryz.prog 400 os).layVars Tryz.prog [("unicode/utf8.first", Rows.laid_unicode_utf8_first)]
theorem qd5 (os : Os) : (w7 os).os = os := World.layVars_os _ _ _
theorem KW (os : Os) (args : Array Value) : laidMetH Tryz.prog qcL ((w7 os).forCall (λ_ _ => 0) ⟨#[], args, []⟩).memory :=
  laidMetH_of_parts3 (fuel := 8) (laidMet_of_run' 8 (by kernel_rfl) (by kernel_rfl)) (by kernel_rfl) (by kernel_rfl)

set_option maxRecDepth 100000 in
theorem YO (os : Os) (started : os.Started) (H : Type) (enc : TypeId × Value -> H) :
    ReturnsInHanded {} Tryz.checked os 5 .any (λw args => (Rows.fnMeshesSpec.pre enc Tryz.prog Tryz.f5 Rows.fnMeshesRow.domain false w args /\ laidMetH Tryz.prog qcL w) /\ sizedMet enc Tryz.prog Tryz.f5 (OpenSpec.ofChange Rows.fnMeshesSpec) false w args)
      (Rows.fnMeshesSpec.post enc Tryz.prog Tryz.f5 false true false false) := by
  refine XJ (C := Tryz.checked) (X := λw _ => laidMetH Tryz.prog qcL w) (λ_ _ _ hh h => h.of_heap hh) Tryz.own started (by kernel_rfl) Tryz.func5
    (ChangeSpec.witness_shaped (enc := enc) (C := Tryz.checked) (os := os) (X := λw _ => laidMetH Tryz.prog qcL w) false (w7 os) #[.slice none 0 0] 8 (qd5 os) (World.shaped_of_RefB (by kernel_rfl) (by kernel_rfl)) (by kernel_rfl) (by kernel_rfl) (by kernel_rfl) (KW os _)) ?_
  intro W base args ds gs before hval0 hW hL hsh
  have hval : ∀ (j : Nat) t v, Tryz.f5.params[j]? = some t -> args[j]? = some v -> Value.okWide Tryz.prog W .any base t v := hval0
  have hW' := hW
  obtain ⟨p, q, hA0, hV, rfl, hfz, hnd⟩ := hW
  have hA : DataW.TrodAll enc Tryz.prog W 0 (λ_ => true) true Tryz.f5.params.toList args.toList ds p := hA0
  rw [Tryz.params5] at hA hval
  obtain ⟨v0, d0, rfl, rfl, h0⟩ := trodAll_one hA
  obtain ⟨rfl, rfl⟩ := trodVars_none hV
  clear hA0 hval0
  simp only [List.append_nil] at hW'
  have hlt : ∀ x ∈ p, x.block < W.heap.size := λx hx => by simpa using hW'.lt x hx
  have hk0 : ∀ W', Bl W W' -> DataW.Trod enc Tryz.prog W' 0 (λb => decide (b < W.heap.size)) true 34 v0 d0 p :=
    λW' hn => Below.trod Tryz.laidOut (by kernel_rfl) (of_decide_eq_true (by kernel_rfl)) h0 hn (λx hx => hlt x hx)
  obtain ⟨a0, n0, c0, rfl⟩ := okWide_slice Tryz.underlying34 (hval 0 34 v0 rfl rfl)
  obtain ⟨f0, hf0⟩ := h0
  obtain ⟨A, n, c, y, e0, hp⟩ := qcF hf0
  have e1 : Value.slice a0 n0 c0 = .slice A n c := by
    have : [Value.slice a0 n0 c0] = [.slice A n c] := e0
    injection this
  injection e1 with q1 q2 q3
  subst q1 q2 q3
  refine (xg W hp (Env.of7 hL hsh)).mono λe W' ⟨he, hb⟩ => ?_
  subst he
  refine ⟨_, rfl, _, _, _, [], p, [], hW', trodAll_mk1 (shut_bool Tryz.underlying4 true), trodAll_mk1 (hk0 _ hb), rfl, Below.frame hb _, λh => by cases h⟩

theorem VP : Rows.FnMeshesSaid :=
  OpenClaim.holds_of_wide 5 Tryz.f5 rfl rfl rfl rfl rfl rfl rfl ⟨rfl, rfl, rfl, rfl, rfl⟩ rfl rfl rfl rfl rfl (by kernel_rfl) Tryz.func5 (by kernel_rfl)
    (of_decide_eq_true (by kernel_rfl)) (by unfold Func.isWrapper; first | (rw [if_pos (by decide +kernel)]; kernel_rfl) | (rw [if_neg (by decide +kernel)]; exact ⟨rfl, rfl⟩))
    (λos started H enc _ => YO os started H enc)

theorem meshes_holds : Rows.FnMeshesCardSaid :=
  Claim7.holds_tied_plain_at .later [] [.data, .data, .data, .data, .sentinel, .sentinel, .pinned] true Rows.fnMeshesCard.stood.harness true
    VP (λ_ h => by cases h) (by kernel_rfl) (λ_ h => by cases h) fnMeshes_row_tie rfl ⟨rfl, rfl⟩ (by kernel_rfl) rfl
    (λf fn hf hfn => by
      obtain rfl : f = 5 := Option.some.inj ((show Tryz.prog.funcNamed "loop.example/g00812/laws.FnMeshes" = some 5 by kernel_rfl).symm.trans hf) |>.symm
      obtain rfl : fn = Tryz.f5 := (Option.some.inj (Tryz.func5.symm.trans hfn)).symm
      exact ⟨by kernel_rfl, λj t ht => by
        rw [Tryz.params5] at ht
        have h3 : t = 34 := by
          rcases j with _ | j
          · simpa using ht.symm
          · simp at ht
        subst h3
        exact (show Tryz.prog.wantsStandIn 34 = false by kernel_rfl)⟩)
    (by kernel_rfl)

end Go.Proofs.YtjaapemopbbfaaaGreatDoor
