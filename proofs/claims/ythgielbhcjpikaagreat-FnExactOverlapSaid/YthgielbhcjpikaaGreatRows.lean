/-
  No cell of these rows narrows 'for every input' (looked for: loops, veiled, ifaces, maps, wideKeys, modest, calm, conditions, laid).
  DERIVED. THE GIVEN ROWS OF THIS SEAT. 7 by the template 'for every input the law returns true; each argument reads behind the call as it read before'; 0 by the template 'total and deterministic' (their statements: YthgielbhcjpikaaGreatTotals.lean).
  GIVEN WITH THE SEED: the statements are not yours to turn. If you find one false, say at which input.
  Laid BY PROGRAM, IN A SANDBOX (cutbox-rows.mjs): the forced cells as the released guide's own fill.sh prints them over the translation aa5ceb1ac0bc727b… (all of the seat's roots in one cut). By AI agents, Wed Nov 11 2026. No macro, syntax, notation, axiom, sorry.
-/
import Derived.Test.YthgielbhcjpikaaGreatChecked
import GoSem.Claim
import GoSem.ClaimJoined
import GoSem.ClaimMapViews
import Derived.JoinedTies
import Derived.KernelRfl
namespace Go.Proofs.YthgielbhcjpikaaGreat
/- THE CELL 'sum', in the pinned program and in every row, IS THE sha256 OF THE DUMP (.gsa) THAT YthgielbhcjpikaaGreatProg.lean LOADS. Nothing in Lean hashes anything: it is a label: what it is worth is what the hold of that sum in a sandbox is worth. -/
noncomputable def Tryz.pinned : Pinned := { name := "ythgielbhcjpikaagreat", sum := "aa5ceb1ac0bc727b6d66dc310d97cf0acbd4106b839359b8e6f3db461f51e87b", checked := Tryz.checked }
namespace Rows
def none {H : Type} : Left H := { results := [], args := [] }

/-- 'laws.FnExactOverlap': WHATEVER THE INPUT: true; the input reads as it did. -/
def fnExactOverlapSpec : ChangeSpec := { name := "fnExactOverlap", fn := fun _ => fun
  | [d1, d2] => { results := [.lit (.bool true)], args := [d1, d2] }
  | _ => none }
def fnExactOverlapRow : OpenClaim := { program := "ythgielbhcjpikaagreat", sum := "aa5ceb1ac0bc727b6d66dc310d97cf0acbd4106b839359b8e6f3db461f51e87b", func := "loop.example/g00812/laws.FnExactOverlap", spec := "fnExactOverlap", unfollowed := true, recurses := true, apart := false }
def FnExactOverlapSaid : Prop := fnExactOverlapRow.holds Tryz.pinned (OpenSpec.ofChange fnExactOverlapSpec)

/-- ITS FALSE NEIGHBOUR: 'it returns false'. Refute it at one input. -/
def fnExactOverlapWrong : ChangeSpec := { name := "fnExactOverlap", fn := fun _ => fun
  | [d1, d2] => { results := [.lit (.bool false)], args := [d1, d2] }
  | _ => none }
def FnExactOverlapWrongFalsely : Prop := fnExactOverlapRow.holds Tryz.pinned (OpenSpec.ofChange fnExactOverlapWrong)

/-- 'laws.FnExactAreaOf': WHATEVER THE INPUT: true; the input reads as it did. -/
def fnExactAreaOfSpec : ChangeSpec := { name := "fnExactAreaOf", fn := fun _ => fun
  | [d] => { results := [.lit (.bool true)], args := [d] }
  | _ => none }
def fnExactAreaOfRow : OpenClaim := { program := "ythgielbhcjpikaagreat", sum := "aa5ceb1ac0bc727b6d66dc310d97cf0acbd4106b839359b8e6f3db461f51e87b", func := "loop.example/g00812/laws.FnExactAreaOf", spec := "fnExactAreaOf", unfollowed := true, recurses := true, apart := false }
def FnExactAreaOfSaid : Prop := fnExactAreaOfRow.holds Tryz.pinned (OpenSpec.ofChange fnExactAreaOfSpec)

/-- ITS FALSE NEIGHBOUR: 'it returns false'. Refute it at one input. -/
def fnExactAreaOfWrong : ChangeSpec := { name := "fnExactAreaOf", fn := fun _ => fun
  | [d] => { results := [.lit (.bool false)], args := [d] }
  | _ => none }
def FnExactAreaOfWrongFalsely : Prop := fnExactAreaOfRow.holds Tryz.pinned (OpenSpec.ofChange fnExactAreaOfWrong)

/-- 'laws.FnExactGradients': WHATEVER THE INPUT: true; the input reads as it did. -/
def fnExactGradientsSpec : ChangeSpec := { name := "fnExactGradients", fn := fun _ => fun
  | [d] => { results := [.lit (.bool true)], args := [d] }
  | _ => none }
def fnExactGradientsRow : OpenClaim := { program := "ythgielbhcjpikaagreat", sum := "aa5ceb1ac0bc727b6d66dc310d97cf0acbd4106b839359b8e6f3db461f51e87b", func := "loop.example/g00812/laws.FnExactGradients", spec := "fnExactGradients", unfollowed := true, recurses := true, apart := false }
def FnExactGradientsSaid : Prop := fnExactGradientsRow.holds Tryz.pinned (OpenSpec.ofChange fnExactGradientsSpec)

/-- ITS FALSE NEIGHBOUR: 'it returns false'. Refute it at one input. -/
def fnExactGradientsWrong : ChangeSpec := { name := "fnExactGradients", fn := fun _ => fun
  | [d] => { results := [.lit (.bool false)], args := [d] }
  | _ => none }
def FnExactGradientsWrongFalsely : Prop := fnExactGradientsRow.holds Tryz.pinned (OpenSpec.ofChange fnExactGradientsWrong)

/-- 'laws.FnExactShapeOf': WHATEVER THE INPUT: true; the input reads as it did. -/
def fnExactShapeOfSpec : ChangeSpec := { name := "fnExactShapeOf", fn := fun _ => fun
  | [d] => { results := [.lit (.bool true)], args := [d] }
  | _ => none }
def fnExactShapeOfRow : OpenClaim := { program := "ythgielbhcjpikaagreat", sum := "aa5ceb1ac0bc727b6d66dc310d97cf0acbd4106b839359b8e6f3db461f51e87b", func := "loop.example/g00812/laws.FnExactShapeOf", spec := "fnExactShapeOf", unfollowed := true, recurses := true, apart := false }
def FnExactShapeOfSaid : Prop := fnExactShapeOfRow.holds Tryz.pinned (OpenSpec.ofChange fnExactShapeOfSpec)

/-- ITS FALSE NEIGHBOUR: 'it returns false'. Refute it at one input. -/
def fnExactShapeOfWrong : ChangeSpec := { name := "fnExactShapeOf", fn := fun _ => fun
  | [d] => { results := [.lit (.bool false)], args := [d] }
  | _ => none }
def FnExactShapeOfWrongFalsely : Prop := fnExactShapeOfRow.holds Tryz.pinned (OpenSpec.ofChange fnExactShapeOfWrong)

/-- 'laws.FnExactLocalMass': WHATEVER THE INPUT: true; the input reads as it did. -/
def fnExactLocalMassSpec : ChangeSpec := { name := "fnExactLocalMass", fn := fun _ => fun
  | [d] => { results := [.lit (.bool true)], args := [d] }
  | _ => none }
def fnExactLocalMassRow : OpenClaim := { program := "ythgielbhcjpikaagreat", sum := "aa5ceb1ac0bc727b6d66dc310d97cf0acbd4106b839359b8e6f3db461f51e87b", func := "loop.example/g00812/laws.FnExactLocalMass", spec := "fnExactLocalMass", unfollowed := true, recurses := true, apart := false }
def FnExactLocalMassSaid : Prop := fnExactLocalMassRow.holds Tryz.pinned (OpenSpec.ofChange fnExactLocalMassSpec)

/-- ITS FALSE NEIGHBOUR: 'it returns false'. Refute it at one input. -/
def fnExactLocalMassWrong : ChangeSpec := { name := "fnExactLocalMass", fn := fun _ => fun
  | [d] => { results := [.lit (.bool false)], args := [d] }
  | _ => none }
def FnExactLocalMassWrongFalsely : Prop := fnExactLocalMassRow.holds Tryz.pinned (OpenSpec.ofChange fnExactLocalMassWrong)

/-- 'laws.FnExactLocalStiffness': WHATEVER THE INPUT: true; the input reads as it did. -/
def fnExactLocalStiffnessSpec : ChangeSpec := { name := "fnExactLocalStiffness", fn := fun _ => fun
  | [d] => { results := [.lit (.bool true)], args := [d] }
  | _ => none }
def fnExactLocalStiffnessRow : OpenClaim := { program := "ythgielbhcjpikaagreat", sum := "aa5ceb1ac0bc727b6d66dc310d97cf0acbd4106b839359b8e6f3db461f51e87b", func := "loop.example/g00812/laws.FnExactLocalStiffness", spec := "fnExactLocalStiffness", unfollowed := true, recurses := true, apart := false }
def FnExactLocalStiffnessSaid : Prop := fnExactLocalStiffnessRow.holds Tryz.pinned (OpenSpec.ofChange fnExactLocalStiffnessSpec)

/-- ITS FALSE NEIGHBOUR: 'it returns false'. Refute it at one input. -/
def fnExactLocalStiffnessWrong : ChangeSpec := { name := "fnExactLocalStiffness", fn := fun _ => fun
  | [d] => { results := [.lit (.bool false)], args := [d] }
  | _ => none }
def FnExactLocalStiffnessWrongFalsely : Prop := fnExactLocalStiffnessRow.holds Tryz.pinned (OpenSpec.ofChange fnExactLocalStiffnessWrong)

/-- 'laws.FnBuilders': WHATEVER THE INPUT: true; the input reads as it did. -/
def fnBuildersSpec : ChangeSpec := { name := "fnBuilders", fn := fun _ => fun
  | [d] => { results := [.lit (.bool true)], args := [d] }
  | _ => none }
def fnBuildersRow : OpenClaim := { program := "ythgielbhcjpikaagreat", sum := "aa5ceb1ac0bc727b6d66dc310d97cf0acbd4106b839359b8e6f3db461f51e87b", func := "loop.example/g00812/laws.FnBuilders", spec := "fnBuilders", inPlace := ["slices.overlaps[loop.example/g00812/impl.Edge]"], unfollowed := true, recurses := true, apart := false }
def FnBuildersSaid : Prop := fnBuildersRow.holds Tryz.pinned (OpenSpec.ofChange fnBuildersSpec)

/-- ITS FALSE NEIGHBOUR: 'it returns false'. Refute it at one input. -/
def fnBuildersWrong : ChangeSpec := { name := "fnBuilders", fn := fun _ => fun
  | [d] => { results := [.lit (.bool false)], args := [d] }
  | _ => none }
def FnBuildersWrongFalsely : Prop := fnBuildersRow.holds Tryz.pinned (OpenSpec.ofChange fnBuildersWrong)

/- THE SECOND FORM. 'bulk': how many values and letters a reading holds, each counted each time it is reached (what is shared counts as often as it is met; a slice's spare places count too). A statement '..UptoSaid' is the law's where the arguments, and the package variables that the reading takes, are together of bulk at most 1048576: NARROWER than '..Said'. Prove '..Said' where nothing that the law and all that it calls make is longer than what came in: it says more and counts as full. Else prove '..UptoSaid'. A law counts once. -/
mutual
def uptoBulk {H : Type} : DataW H → Nat
  | .lit (.string bytes) => bytes.length + 1
  | .lit _ => 1
  | .nil => 1
  | .ptr d => uptoBulk d + 1
  | .slice elems spare => uptoBulkAll elems + uptoBulkAll spare + 1
  | .agg parts => uptoBulkAll parts + 1
  | .iface _ d => uptoBulk d + 1
  | .map entries => uptoBulkEntries entries + 1
  | .held _ => 1
def uptoBulkAll {H : Type} : List (DataW H) → Nat
  | [] => 0
  | d :: r => uptoBulk d + uptoBulkAll r
def uptoBulkEntries {H : Type} : List (Lit × DataW H) → Nat
  | [] => 0
  | x :: r => uptoBulkEntry x + uptoBulkEntries r
def uptoBulkEntry {H : Type} : Lit × DataW H → Nat
  | (.string bytes, d) => bytes.length + uptoBulk d + 1
  | (_, d) => uptoBulk d + 1
 end
def uptoSmall : (H : Type) → List (DataW H) → Bool := fun _ ds => decide (uptoBulkAll ds ≤ 1048576)
def OpenSpec.upto (s : _root_.Go.ChangeSpec) : _root_.Go.OpenSpec := { _root_.Go.OpenSpec.ofChange s with cond := some uptoSmall }

/-- 'laws.FnExactOverlap', WHERE WHAT IT READS IS OF BULK AT MOST 1048576: true; the input reads as it did. -/
def fnExactOverlapUptoRow : OpenClaim := { program := "ythgielbhcjpikaagreat", sum := "aa5ceb1ac0bc727b6d66dc310d97cf0acbd4106b839359b8e6f3db461f51e87b", func := "loop.example/g00812/laws.FnExactOverlap", spec := "fnExactOverlap", unfollowed := true, recurses := true, apart := false, narrowed := true }
def FnExactOverlapUptoSaid : Prop := fnExactOverlapUptoRow.holds Tryz.pinned (OpenSpec.upto fnExactOverlapSpec)

/-- 'laws.FnExactAreaOf', WHERE WHAT IT READS IS OF BULK AT MOST 1048576: true; the input reads as it did. -/
def fnExactAreaOfUptoRow : OpenClaim := { program := "ythgielbhcjpikaagreat", sum := "aa5ceb1ac0bc727b6d66dc310d97cf0acbd4106b839359b8e6f3db461f51e87b", func := "loop.example/g00812/laws.FnExactAreaOf", spec := "fnExactAreaOf", unfollowed := true, recurses := true, apart := false, narrowed := true }
def FnExactAreaOfUptoSaid : Prop := fnExactAreaOfUptoRow.holds Tryz.pinned (OpenSpec.upto fnExactAreaOfSpec)

/-- 'laws.FnExactGradients', WHERE WHAT IT READS IS OF BULK AT MOST 1048576: true; the input reads as it did. -/
def fnExactGradientsUptoRow : OpenClaim := { program := "ythgielbhcjpikaagreat", sum := "aa5ceb1ac0bc727b6d66dc310d97cf0acbd4106b839359b8e6f3db461f51e87b", func := "loop.example/g00812/laws.FnExactGradients", spec := "fnExactGradients", unfollowed := true, recurses := true, apart := false, narrowed := true }
def FnExactGradientsUptoSaid : Prop := fnExactGradientsUptoRow.holds Tryz.pinned (OpenSpec.upto fnExactGradientsSpec)

/-- 'laws.FnExactShapeOf', WHERE WHAT IT READS IS OF BULK AT MOST 1048576: true; the input reads as it did. -/
def fnExactShapeOfUptoRow : OpenClaim := { program := "ythgielbhcjpikaagreat", sum := "aa5ceb1ac0bc727b6d66dc310d97cf0acbd4106b839359b8e6f3db461f51e87b", func := "loop.example/g00812/laws.FnExactShapeOf", spec := "fnExactShapeOf", unfollowed := true, recurses := true, apart := false, narrowed := true }
def FnExactShapeOfUptoSaid : Prop := fnExactShapeOfUptoRow.holds Tryz.pinned (OpenSpec.upto fnExactShapeOfSpec)

/-- 'laws.FnExactLocalMass', WHERE WHAT IT READS IS OF BULK AT MOST 1048576: true; the input reads as it did. -/
def fnExactLocalMassUptoRow : OpenClaim := { program := "ythgielbhcjpikaagreat", sum := "aa5ceb1ac0bc727b6d66dc310d97cf0acbd4106b839359b8e6f3db461f51e87b", func := "loop.example/g00812/laws.FnExactLocalMass", spec := "fnExactLocalMass", unfollowed := true, recurses := true, apart := false, narrowed := true }
def FnExactLocalMassUptoSaid : Prop := fnExactLocalMassUptoRow.holds Tryz.pinned (OpenSpec.upto fnExactLocalMassSpec)

/-- 'laws.FnExactLocalStiffness', WHERE WHAT IT READS IS OF BULK AT MOST 1048576: true; the input reads as it did. -/
def fnExactLocalStiffnessUptoRow : OpenClaim := { program := "ythgielbhcjpikaagreat", sum := "aa5ceb1ac0bc727b6d66dc310d97cf0acbd4106b839359b8e6f3db461f51e87b", func := "loop.example/g00812/laws.FnExactLocalStiffness", spec := "fnExactLocalStiffness", unfollowed := true, recurses := true, apart := false, narrowed := true }
def FnExactLocalStiffnessUptoSaid : Prop := fnExactLocalStiffnessUptoRow.holds Tryz.pinned (OpenSpec.upto fnExactLocalStiffnessSpec)

/-- 'laws.FnBuilders', WHERE WHAT IT READS IS OF BULK AT MOST 1048576: true; the input reads as it did. -/
def fnBuildersUptoRow : OpenClaim := { program := "ythgielbhcjpikaagreat", sum := "aa5ceb1ac0bc727b6d66dc310d97cf0acbd4106b839359b8e6f3db461f51e87b", func := "loop.example/g00812/laws.FnBuilders", spec := "fnBuilders", inPlace := ["slices.overlaps[loop.example/g00812/impl.Edge]"], unfollowed := true, recurses := true, apart := false, narrowed := true }
def FnBuildersUptoSaid : Prop := fnBuildersUptoRow.holds Tryz.pinned (OpenSpec.upto fnBuildersSpec)

end Rows
end Go.Proofs.YthgielbhcjpikaaGreat
