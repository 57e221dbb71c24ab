/-
  No cell of these rows narrows 'for every input' (looked for: loops, veiled, ifaces, maps, wideKeys, modest, calm, conditions, laid).
  DERIVED. THE GIVEN ROWS OF THIS SEAT. 8 by the template 'for every input the law returns true; each argument reads behind the call as it read before'; 0 by the template 'total and deterministic' (their statements: YtggjdgjkdmgjnaaGreatTotals.lean).
  GIVEN WITH THE SEED: the statements are not yours to turn. If you find one false, say at which input.
  Laid BY PROGRAM, IN A SANDBOX (cutbox-rows.mjs): the forced cells as the released guide's own fill.sh prints them over the translation 23f4409052ddf5c9… (all of the seat's roots in one cut). By AI agents, Wed Nov 11 2026. No macro, syntax, notation, axiom, sorry.
-/
import Derived.Test.YtggjdgjkdmgjnaaGreatChecked
import GoSem.Claim
import GoSem.ClaimJoined
import GoSem.ClaimMapViews
import Derived.JoinedTies
import Derived.KernelRfl
namespace Go.Proofs.YtggjdgjkdmgjnaaGreat
/- THE CELL 'sum', in the pinned program and in every row, IS THE sha256 OF THE DUMP (.gsa) THAT YtggjdgjkdmgjnaaGreatProg.lean LOADS. Nothing in Lean hashes anything: it is a label: what it is worth is what the hold of that sum in a sandbox is worth. -/
noncomputable def Tryz.pinned : Pinned := { name := "ytggjdgjkdmgjnaagreat", sum := "23f4409052ddf5c9177b1d09110af8fd20d61edbc68d0e6f3cd6aa1ee516c003", checked := Tryz.checked }
namespace Rows
def none {H : Type} : Left H := { results := [], args := [] }

/-- 'laws.FnExactGradients': WHATEVER THE INPUT: true; the input reads as it did. -/
def fnExactGradientsSpec : ChangeSpec := { name := "fnExactGradients", fn := fun _ => fun
  | [d] => { results := [.lit (.bool true)], args := [d] }
  | _ => none }
def fnExactGradientsRow : OpenClaim := { program := "ytggjdgjkdmgjnaagreat", sum := "23f4409052ddf5c9177b1d09110af8fd20d61edbc68d0e6f3cd6aa1ee516c003", func := "loop.example/g00812/laws.FnExactGradients", spec := "fnExactGradients", unfollowed := true, recurses := true, apart := false }
def FnExactGradientsSaid : Prop := fnExactGradientsRow.holds Tryz.pinned (OpenSpec.ofChange fnExactGradientsSpec)

/-- ITS FALSE NEIGHBOUR: 'it returns false'. Refute it at one input. -/
def fnExactGradientsWrong : ChangeSpec := { name := "fnExactGradients", fn := fun _ => fun
  | [d] => { results := [.lit (.bool false)], args := [d] }
  | _ => none }
def FnExactGradientsWrongFalsely : Prop := fnExactGradientsRow.holds Tryz.pinned (OpenSpec.ofChange fnExactGradientsWrong)

/-- 'laws.FnExactShapeOf': WHATEVER THE INPUT: true; the input reads as it did. -/
def fnExactShapeOfSpec : ChangeSpec := { name := "fnExactShapeOf", fn := fun _ => fun
  | [d] => { results := [.lit (.bool true)], args := [d] }
  | _ => none }
def fnExactShapeOfRow : OpenClaim := { program := "ytggjdgjkdmgjnaagreat", sum := "23f4409052ddf5c9177b1d09110af8fd20d61edbc68d0e6f3cd6aa1ee516c003", func := "loop.example/g00812/laws.FnExactShapeOf", spec := "fnExactShapeOf", unfollowed := true, recurses := true, apart := false }
def FnExactShapeOfSaid : Prop := fnExactShapeOfRow.holds Tryz.pinned (OpenSpec.ofChange fnExactShapeOfSpec)

/-- ITS FALSE NEIGHBOUR: 'it returns false'. Refute it at one input. -/
def fnExactShapeOfWrong : ChangeSpec := { name := "fnExactShapeOf", fn := fun _ => fun
  | [d] => { results := [.lit (.bool false)], args := [d] }
  | _ => none }
def FnExactShapeOfWrongFalsely : Prop := fnExactShapeOfRow.holds Tryz.pinned (OpenSpec.ofChange fnExactShapeOfWrong)

/-- 'laws.FnExactLocalMass': WHATEVER THE INPUT: true; the input reads as it did. -/
def fnExactLocalMassSpec : ChangeSpec := { name := "fnExactLocalMass", fn := fun _ => fun
  | [d] => { results := [.lit (.bool true)], args := [d] }
  | _ => none }
def fnExactLocalMassRow : OpenClaim := { program := "ytggjdgjkdmgjnaagreat", sum := "23f4409052ddf5c9177b1d09110af8fd20d61edbc68d0e6f3cd6aa1ee516c003", func := "loop.example/g00812/laws.FnExactLocalMass", spec := "fnExactLocalMass", unfollowed := true, recurses := true, apart := false }
def FnExactLocalMassSaid : Prop := fnExactLocalMassRow.holds Tryz.pinned (OpenSpec.ofChange fnExactLocalMassSpec)

/-- ITS FALSE NEIGHBOUR: 'it returns false'. Refute it at one input. -/
def fnExactLocalMassWrong : ChangeSpec := { name := "fnExactLocalMass", fn := fun _ => fun
  | [d] => { results := [.lit (.bool false)], args := [d] }
  | _ => none }
def FnExactLocalMassWrongFalsely : Prop := fnExactLocalMassRow.holds Tryz.pinned (OpenSpec.ofChange fnExactLocalMassWrong)

/-- 'laws.FnExactLocalStiffness': WHATEVER THE INPUT: true; the input reads as it did. -/
def fnExactLocalStiffnessSpec : ChangeSpec := { name := "fnExactLocalStiffness", fn := fun _ => fun
  | [d] => { results := [.lit (.bool true)], args := [d] }
  | _ => none }
def fnExactLocalStiffnessRow : OpenClaim := { program := "ytggjdgjkdmgjnaagreat", sum := "23f4409052ddf5c9177b1d09110af8fd20d61edbc68d0e6f3cd6aa1ee516c003", func := "loop.example/g00812/laws.FnExactLocalStiffness", spec := "fnExactLocalStiffness", unfollowed := true, recurses := true, apart := false }
def FnExactLocalStiffnessSaid : Prop := fnExactLocalStiffnessRow.holds Tryz.pinned (OpenSpec.ofChange fnExactLocalStiffnessSpec)

/-- ITS FALSE NEIGHBOUR: 'it returns false'. Refute it at one input. -/
def fnExactLocalStiffnessWrong : ChangeSpec := { name := "fnExactLocalStiffness", fn := fun _ => fun
  | [d] => { results := [.lit (.bool false)], args := [d] }
  | _ => none }
def FnExactLocalStiffnessWrongFalsely : Prop := fnExactLocalStiffnessRow.holds Tryz.pinned (OpenSpec.ofChange fnExactLocalStiffnessWrong)

/-- 'laws.FnShapes': WHATEVER THE INPUT: true; the input reads as it did. -/
def fnShapesSpec : ChangeSpec := { name := "fnShapes", fn := fun _ => fun
  | [d] => { results := [.lit (.bool true)], args := [d] }
  | _ => none }
def fnShapesRow : OpenClaim := { program := "ytggjdgjkdmgjnaagreat", sum := "23f4409052ddf5c9177b1d09110af8fd20d61edbc68d0e6f3cd6aa1ee516c003", func := "loop.example/g00812/laws.FnShapes", spec := "fnShapes", unfollowed := true, recurses := true, apart := false }
def FnShapesSaid : Prop := fnShapesRow.holds Tryz.pinned (OpenSpec.ofChange fnShapesSpec)

/-- ITS FALSE NEIGHBOUR: 'it returns false'. Refute it at one input. -/
def fnShapesWrong : ChangeSpec := { name := "fnShapes", fn := fun _ => fun
  | [d] => { results := [.lit (.bool false)], args := [d] }
  | _ => none }
def FnShapesWrongFalsely : Prop := fnShapesRow.holds Tryz.pinned (OpenSpec.ofChange fnShapesWrong)

/-- 'laws.FnElements': WHATEVER THE INPUT: true; the input reads as it did. -/
def fnElementsSpec : ChangeSpec := { name := "fnElements", fn := fun _ => fun
  | [d] => { results := [.lit (.bool true)], args := [d] }
  | _ => none }
def fnElementsRow : OpenClaim := { program := "ytggjdgjkdmgjnaagreat", sum := "23f4409052ddf5c9177b1d09110af8fd20d61edbc68d0e6f3cd6aa1ee516c003", func := "loop.example/g00812/laws.FnElements", spec := "fnElements", unfollowed := true, recurses := true, apart := false }
def FnElementsSaid : Prop := fnElementsRow.holds Tryz.pinned (OpenSpec.ofChange fnElementsSpec)

/-- ITS FALSE NEIGHBOUR: 'it returns false'. Refute it at one input. -/
def fnElementsWrong : ChangeSpec := { name := "fnElements", fn := fun _ => fun
  | [d] => { results := [.lit (.bool false)], args := [d] }
  | _ => none }
def FnElementsWrongFalsely : Prop := fnElementsRow.holds Tryz.pinned (OpenSpec.ofChange fnElementsWrong)

/-- 'laws.FnTriangles': WHATEVER THE INPUT: true; the input reads as it did. -/
def fnTrianglesSpec : ChangeSpec := { name := "fnTriangles", fn := fun _ => fun
  | [d] => { results := [.lit (.bool true)], args := [d] }
  | _ => none }
def fnTrianglesRow : OpenClaim := { program := "ytggjdgjkdmgjnaagreat", sum := "23f4409052ddf5c9177b1d09110af8fd20d61edbc68d0e6f3cd6aa1ee516c003", func := "loop.example/g00812/laws.FnTriangles", spec := "fnTriangles", unfollowed := true, recurses := true, apart := false }
def FnTrianglesSaid : Prop := fnTrianglesRow.holds Tryz.pinned (OpenSpec.ofChange fnTrianglesSpec)

/-- ITS FALSE NEIGHBOUR: 'it returns false'. Refute it at one input. -/
def fnTrianglesWrong : ChangeSpec := { name := "fnTriangles", fn := fun _ => fun
  | [d] => { results := [.lit (.bool false)], args := [d] }
  | _ => none }
def FnTrianglesWrongFalsely : Prop := fnTrianglesRow.holds Tryz.pinned (OpenSpec.ofChange fnTrianglesWrong)

/-- 'laws.FnIntegrals': WHATEVER THE INPUT: true; the input reads as it did. -/
def fnIntegralsSpec : ChangeSpec := { name := "fnIntegrals", fn := fun _ => fun
  | [d] => { results := [.lit (.bool true)], args := [d] }
  | _ => none }
def fnIntegralsRow : OpenClaim := { program := "ytggjdgjkdmgjnaagreat", sum := "23f4409052ddf5c9177b1d09110af8fd20d61edbc68d0e6f3cd6aa1ee516c003", func := "loop.example/g00812/laws.FnIntegrals", spec := "fnIntegrals", unfollowed := true, recurses := true, apart := false }
def FnIntegralsSaid : Prop := fnIntegralsRow.holds Tryz.pinned (OpenSpec.ofChange fnIntegralsSpec)

/-- ITS FALSE NEIGHBOUR: 'it returns false'. Refute it at one input. -/
def fnIntegralsWrong : ChangeSpec := { name := "fnIntegrals", fn := fun _ => fun
  | [d] => { results := [.lit (.bool false)], args := [d] }
  | _ => none }
def FnIntegralsWrongFalsely : Prop := fnIntegralsRow.holds Tryz.pinned (OpenSpec.ofChange fnIntegralsWrong)

/- THE SECOND FORM. 'bulk': how many values and letters a reading holds, each counted each time it is reached (what is shared counts as often as it is met; a slice's spare places count too). A statement '..UptoSaid' is the law's where the arguments, and the package variables that the reading takes, are together of bulk at most 1048576: NARROWER than '..Said'. Prove '..Said' where nothing that the law and all that it calls make is longer than what came in: it says more and counts as full. Else prove '..UptoSaid'. A law counts once. -/
mutual
def uptoBulk {H : Type} : DataW H → Nat
  | .lit (.string bytes) => bytes.length + 1
  | .lit _ => 1
  | .nil => 1
  | .ptr d => uptoBulk d + 1
  | .slice elems spare => uptoBulkAll elems + uptoBulkAll spare + 1
  | .agg parts => uptoBulkAll parts + 1
  | .iface _ d => uptoBulk d + 1
  | .map entries => uptoBulkEntries entries + 1
  | .held _ => 1
def uptoBulkAll {H : Type} : List (DataW H) → Nat
  | [] => 0
  | d :: r => uptoBulk d + uptoBulkAll r
def uptoBulkEntries {H : Type} : List (Lit × DataW H) → Nat
  | [] => 0
  | x :: r => uptoBulkEntry x + uptoBulkEntries r
def uptoBulkEntry {H : Type} : Lit × DataW H → Nat
  | (.string bytes, d) => bytes.length + uptoBulk d + 1
  | (_, d) => uptoBulk d + 1
 end
def uptoSmall : (H : Type) → List (DataW H) → Bool := fun _ ds => decide (uptoBulkAll ds ≤ 1048576)
def OpenSpec.upto (s : _root_.Go.ChangeSpec) : _root_.Go.OpenSpec := { _root_.Go.OpenSpec.ofChange s with cond := some uptoSmall }

/-- 'laws.FnExactGradients', WHERE WHAT IT READS IS OF BULK AT MOST 1048576: true; the input reads as it did. -/
def fnExactGradientsUptoRow : OpenClaim := { program := "ytggjdgjkdmgjnaagreat", sum := "23f4409052ddf5c9177b1d09110af8fd20d61edbc68d0e6f3cd6aa1ee516c003", func := "loop.example/g00812/laws.FnExactGradients", spec := "fnExactGradients", unfollowed := true, recurses := true, apart := false, narrowed := true }
def FnExactGradientsUptoSaid : Prop := fnExactGradientsUptoRow.holds Tryz.pinned (OpenSpec.upto fnExactGradientsSpec)

/-- 'laws.FnExactShapeOf', WHERE WHAT IT READS IS OF BULK AT MOST 1048576: true; the input reads as it did. -/
def fnExactShapeOfUptoRow : OpenClaim := { program := "ytggjdgjkdmgjnaagreat", sum := "23f4409052ddf5c9177b1d09110af8fd20d61edbc68d0e6f3cd6aa1ee516c003", func := "loop.example/g00812/laws.FnExactShapeOf", spec := "fnExactShapeOf", unfollowed := true, recurses := true, apart := false, narrowed := true }
def FnExactShapeOfUptoSaid : Prop := fnExactShapeOfUptoRow.holds Tryz.pinned (OpenSpec.upto fnExactShapeOfSpec)

/-- 'laws.FnExactLocalMass', WHERE WHAT IT READS IS OF BULK AT MOST 1048576: true; the input reads as it did. -/
def fnExactLocalMassUptoRow : OpenClaim := { program := "ytggjdgjkdmgjnaagreat", sum := "23f4409052ddf5c9177b1d09110af8fd20d61edbc68d0e6f3cd6aa1ee516c003", func := "loop.example/g00812/laws.FnExactLocalMass", spec := "fnExactLocalMass", unfollowed := true, recurses := true, apart := false, narrowed := true }
def FnExactLocalMassUptoSaid : Prop := fnExactLocalMassUptoRow.holds Tryz.pinned (OpenSpec.upto fnExactLocalMassSpec)

/-- 'laws.FnExactLocalStiffness', WHERE WHAT IT READS IS OF BULK AT MOST 1048576: true; the input reads as it did. -/
def fnExactLocalStiffnessUptoRow : OpenClaim := { program := "ytggjdgjkdmgjnaagreat", sum := "23f4409052ddf5c9177b1d09110af8fd20d61edbc68d0e6f3cd6aa1ee516c003", func := "loop.example/g00812/laws.FnExactLocalStiffness", spec := "fnExactLocalStiffness", unfollowed := true, recurses := true, apart := false, narrowed := true }
def FnExactLocalStiffnessUptoSaid : Prop := fnExactLocalStiffnessUptoRow.holds Tryz.pinned (OpenSpec.upto fnExactLocalStiffnessSpec)

/-- 'laws.FnShapes', WHERE WHAT IT READS IS OF BULK AT MOST 1048576: true; the input reads as it did. -/
def fnShapesUptoRow : OpenClaim := { program := "ytggjdgjkdmgjnaagreat", sum := "23f4409052ddf5c9177b1d09110af8fd20d61edbc68d0e6f3cd6aa1ee516c003", func := "loop.example/g00812/laws.FnShapes", spec := "fnShapes", unfollowed := true, recurses := true, apart := false, narrowed := true }
def FnShapesUptoSaid : Prop := fnShapesUptoRow.holds Tryz.pinned (OpenSpec.upto fnShapesSpec)

/-- 'laws.FnElements', WHERE WHAT IT READS IS OF BULK AT MOST 1048576: true; the input reads as it did. -/
def fnElementsUptoRow : OpenClaim := { program := "ytggjdgjkdmgjnaagreat", sum := "23f4409052ddf5c9177b1d09110af8fd20d61edbc68d0e6f3cd6aa1ee516c003", func := "loop.example/g00812/laws.FnElements", spec := "fnElements", unfollowed := true, recurses := true, apart := false, narrowed := true }
def FnElementsUptoSaid : Prop := fnElementsUptoRow.holds Tryz.pinned (OpenSpec.upto fnElementsSpec)

/-- 'laws.FnTriangles', WHERE WHAT IT READS IS OF BULK AT MOST 1048576: true; the input reads as it did. -/
def fnTrianglesUptoRow : OpenClaim := { program := "ytggjdgjkdmgjnaagreat", sum := "23f4409052ddf5c9177b1d09110af8fd20d61edbc68d0e6f3cd6aa1ee516c003", func := "loop.example/g00812/laws.FnTriangles", spec := "fnTriangles", unfollowed := true, recurses := true, apart := false, narrowed := true }
def FnTrianglesUptoSaid : Prop := fnTrianglesUptoRow.holds Tryz.pinned (OpenSpec.upto fnTrianglesSpec)

/-- 'laws.FnIntegrals', WHERE WHAT IT READS IS OF BULK AT MOST 1048576: true; the input reads as it did. -/
def fnIntegralsUptoRow : OpenClaim := { program := "ytggjdgjkdmgjnaagreat", sum := "23f4409052ddf5c9177b1d09110af8fd20d61edbc68d0e6f3cd6aa1ee516c003", func := "loop.example/g00812/laws.FnIntegrals", spec := "fnIntegrals", unfollowed := true, recurses := true, apart := false, narrowed := true }
def FnIntegralsUptoSaid : Prop := fnIntegralsUptoRow.holds Tryz.pinned (OpenSpec.upto fnIntegralsSpec)

end Rows
end Go.Proofs.YtggjdgjkdmgjnaaGreat
