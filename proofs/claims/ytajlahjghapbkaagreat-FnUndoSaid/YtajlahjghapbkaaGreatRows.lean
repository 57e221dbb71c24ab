/-
  No cell of these rows narrows 'for every input' (looked for: loops, veiled, ifaces, maps, wideKeys, modest, calm, conditions, laid).
  DERIVED. THE GIVEN ROWS OF THIS SEAT. 9 by the template 'for every input the law returns true; each argument reads behind the call as it read before'; 0 by the template 'total and deterministic' (their statements: YtajlahjghapbkaaGreatTotals.lean).
  GIVEN WITH THE SEED: the statements are not yours to turn. If you find one false, say at which input.
  Laid BY PROGRAM, IN A SANDBOX (cutbox-rows.mjs): the forced cells as the released guide's own fill.sh prints them over the translation 8f17b3b4b11a9204… (all of the seat's roots in one cut). By AI agents, Wed Nov 11 2026. No macro, syntax, notation, axiom, sorry.
-/
import Derived.Test.YtajlahjghapbkaaGreatChecked
import GoSem.Claim
import GoSem.ClaimJoined
import GoSem.ClaimMapViews
import Derived.JoinedTies
import Derived.KernelRfl
namespace Go.Proofs.YtajlahjghapbkaaGreat
/- THE CELL 'sum', in the pinned program and in every row, IS THE sha256 OF THE DUMP (.gsa) THAT YtajlahjghapbkaaGreatProg.lean LOADS. Nothing in Lean hashes anything: it is a label: what it is worth is what the hold of that sum in a sandbox is worth. -/
noncomputable def Tryz.pinned : Pinned := { name := "ytajlahjghapbkaagreat", sum := "8f17b3b4b11a920456f663fb5c14b0a0741cf3fb05d2df9f013dfe7907ab2b62", checked := Tryz.checked }
namespace Rows
def none {H : Type} : Left H := { results := [], args := [] }

/-- 'laws.FnTriangles': WHATEVER THE INPUT: true; the input reads as it did. -/
def fnTrianglesSpec : ChangeSpec := { name := "fnTriangles", fn := fun _ => fun
  | [d] => { results := [.lit (.bool true)], args := [d] }
  | _ => none }
def fnTrianglesRow : OpenClaim := { program := "ytajlahjghapbkaagreat", sum := "8f17b3b4b11a920456f663fb5c14b0a0741cf3fb05d2df9f013dfe7907ab2b62", func := "loop.example/g00812/laws.FnTriangles", spec := "fnTriangles", unfollowed := true, recurses := true, apart := false }
def FnTrianglesSaid : Prop := fnTrianglesRow.holds Tryz.pinned (OpenSpec.ofChange fnTrianglesSpec)

/-- ITS FALSE NEIGHBOUR: 'it returns false'. Refute it at one input. -/
def fnTrianglesWrong : ChangeSpec := { name := "fnTriangles", fn := fun _ => fun
  | [d] => { results := [.lit (.bool false)], args := [d] }
  | _ => none }
def FnTrianglesWrongFalsely : Prop := fnTrianglesRow.holds Tryz.pinned (OpenSpec.ofChange fnTrianglesWrong)

/-- 'laws.FnIntegrals': WHATEVER THE INPUT: true; the input reads as it did. -/
def fnIntegralsSpec : ChangeSpec := { name := "fnIntegrals", fn := fun _ => fun
  | [d] => { results := [.lit (.bool true)], args := [d] }
  | _ => none }
def fnIntegralsRow : OpenClaim := { program := "ytajlahjghapbkaagreat", sum := "8f17b3b4b11a920456f663fb5c14b0a0741cf3fb05d2df9f013dfe7907ab2b62", func := "loop.example/g00812/laws.FnIntegrals", spec := "fnIntegrals", unfollowed := true, recurses := true, apart := false }
def FnIntegralsSaid : Prop := fnIntegralsRow.holds Tryz.pinned (OpenSpec.ofChange fnIntegralsSpec)

/-- ITS FALSE NEIGHBOUR: 'it returns false'. Refute it at one input. -/
def fnIntegralsWrong : ChangeSpec := { name := "fnIntegrals", fn := fun _ => fun
  | [d] => { results := [.lit (.bool false)], args := [d] }
  | _ => none }
def FnIntegralsWrongFalsely : Prop := fnIntegralsRow.holds Tryz.pinned (OpenSpec.ofChange fnIntegralsWrong)

/-- 'laws.FnBuilders': WHATEVER THE INPUT: true; the input reads as it did. -/
def fnBuildersSpec : ChangeSpec := { name := "fnBuilders", fn := fun _ => fun
  | [d] => { results := [.lit (.bool true)], args := [d] }
  | _ => none }
def fnBuildersRow : OpenClaim := { program := "ytajlahjghapbkaagreat", sum := "8f17b3b4b11a920456f663fb5c14b0a0741cf3fb05d2df9f013dfe7907ab2b62", func := "loop.example/g00812/laws.FnBuilders", spec := "fnBuilders", inPlace := ["slices.overlaps[loop.example/g00812/impl.Edge]"], unfollowed := true, recurses := true, apart := false }
def FnBuildersSaid : Prop := fnBuildersRow.holds Tryz.pinned (OpenSpec.ofChange fnBuildersSpec)

/-- ITS FALSE NEIGHBOUR: 'it returns false'. Refute it at one input. -/
def fnBuildersWrong : ChangeSpec := { name := "fnBuilders", fn := fun _ => fun
  | [d] => { results := [.lit (.bool false)], args := [d] }
  | _ => none }
def FnBuildersWrongFalsely : Prop := fnBuildersRow.holds Tryz.pinned (OpenSpec.ofChange fnBuildersWrong)

/-- 'laws.FnUndo': WHATEVER THE INPUT: true; the input reads as it did. -/
def fnUndoSpec : ChangeSpec := { name := "fnUndo", fn := fun _ => fun
  | [d] => { results := [.lit (.bool true)], args := [d] }
  | _ => none }
def fnUndoRow : OpenClaim := { program := "ytajlahjghapbkaagreat", sum := "8f17b3b4b11a920456f663fb5c14b0a0741cf3fb05d2df9f013dfe7907ab2b62", func := "loop.example/g00812/laws.FnUndo", spec := "fnUndo", inPlace := ["slices.overlaps[loop.example/g00812/impl.Edge]"], unfollowed := true, recurses := true, apart := false }
def FnUndoSaid : Prop := fnUndoRow.holds Tryz.pinned (OpenSpec.ofChange fnUndoSpec)

/-- ITS FALSE NEIGHBOUR: 'it returns false'. Refute it at one input. -/
def fnUndoWrong : ChangeSpec := { name := "fnUndo", fn := fun _ => fun
  | [d] => { results := [.lit (.bool false)], args := [d] }
  | _ => none }
def FnUndoWrongFalsely : Prop := fnUndoRow.holds Tryz.pinned (OpenSpec.ofChange fnUndoWrong)

/-- 'laws.FnRefine': WHATEVER THE INPUT: true; the input reads as it did. -/
def fnRefineSpec : ChangeSpec := { name := "fnRefine", fn := fun _ => fun
  | [d] => { results := [.lit (.bool true)], args := [d] }
  | _ => none }
def fnRefineRow : OpenClaim := { program := "ytajlahjghapbkaagreat", sum := "8f17b3b4b11a920456f663fb5c14b0a0741cf3fb05d2df9f013dfe7907ab2b62", func := "loop.example/g00812/laws.FnRefine", spec := "fnRefine", inPlace := ["slices.overlaps[loop.example/g00812/impl.Edge]"], unfollowed := true, recurses := true, apart := false }
def FnRefineSaid : Prop := fnRefineRow.holds Tryz.pinned (OpenSpec.ofChange fnRefineSpec)

/-- ITS FALSE NEIGHBOUR: 'it returns false'. Refute it at one input. -/
def fnRefineWrong : ChangeSpec := { name := "fnRefine", fn := fun _ => fun
  | [d] => { results := [.lit (.bool false)], args := [d] }
  | _ => none }
def FnRefineWrongFalsely : Prop := fnRefineRow.holds Tryz.pinned (OpenSpec.ofChange fnRefineWrong)

/-- 'laws.FnAngles': WHATEVER THE INPUT: true; the input reads as it did. -/
def fnAnglesSpec : ChangeSpec := { name := "fnAngles", fn := fun _ => fun
  | [d] => { results := [.lit (.bool true)], args := [d] }
  | _ => none }
def fnAnglesRow : OpenClaim := { program := "ytajlahjghapbkaagreat", sum := "8f17b3b4b11a920456f663fb5c14b0a0741cf3fb05d2df9f013dfe7907ab2b62", func := "loop.example/g00812/laws.FnAngles", spec := "fnAngles", inPlace := ["slices.overlaps[loop.example/g00812/impl.Edge]"], unfollowed := true, recurses := true, apart := false }
def FnAnglesSaid : Prop := fnAnglesRow.holds Tryz.pinned (OpenSpec.ofChange fnAnglesSpec)

/-- ITS FALSE NEIGHBOUR: 'it returns false'. Refute it at one input. -/
def fnAnglesWrong : ChangeSpec := { name := "fnAngles", fn := fun _ => fun
  | [d] => { results := [.lit (.bool false)], args := [d] }
  | _ => none }
def FnAnglesWrongFalsely : Prop := fnAnglesRow.holds Tryz.pinned (OpenSpec.ofChange fnAnglesWrong)

/-- 'laws.FnCoarsen': WHATEVER THE INPUT: true; the input reads as it did. -/
def fnCoarsenSpec : ChangeSpec := { name := "fnCoarsen", fn := fun _ => fun
  | [d] => { results := [.lit (.bool true)], args := [d] }
  | _ => none }
def fnCoarsenRow : OpenClaim := { program := "ytajlahjghapbkaagreat", sum := "8f17b3b4b11a920456f663fb5c14b0a0741cf3fb05d2df9f013dfe7907ab2b62", func := "loop.example/g00812/laws.FnCoarsen", spec := "fnCoarsen", unfollowed := true, recurses := true, apart := false }
def FnCoarsenSaid : Prop := fnCoarsenRow.holds Tryz.pinned (OpenSpec.ofChange fnCoarsenSpec)

/-- ITS FALSE NEIGHBOUR: 'it returns false'. Refute it at one input. -/
def fnCoarsenWrong : ChangeSpec := { name := "fnCoarsen", fn := fun _ => fun
  | [d] => { results := [.lit (.bool false)], args := [d] }
  | _ => none }
def FnCoarsenWrongFalsely : Prop := fnCoarsenRow.holds Tryz.pinned (OpenSpec.ofChange fnCoarsenWrong)

/-- 'laws.FnProlong': WHATEVER THE INPUT: true; the input reads as it did. -/
def fnProlongSpec : ChangeSpec := { name := "fnProlong", fn := fun _ => fun
  | [d] => { results := [.lit (.bool true)], args := [d] }
  | _ => none }
def fnProlongRow : OpenClaim := { program := "ytajlahjghapbkaagreat", sum := "8f17b3b4b11a920456f663fb5c14b0a0741cf3fb05d2df9f013dfe7907ab2b62", func := "loop.example/g00812/laws.FnProlong", spec := "fnProlong", inPlace := ["slices.overlaps[loop.example/g00812/impl.Edge]"], unfollowed := true, recurses := true, apart := false }
def FnProlongSaid : Prop := fnProlongRow.holds Tryz.pinned (OpenSpec.ofChange fnProlongSpec)

/-- ITS FALSE NEIGHBOUR: 'it returns false'. Refute it at one input. -/
def fnProlongWrong : ChangeSpec := { name := "fnProlong", fn := fun _ => fun
  | [d] => { results := [.lit (.bool false)], args := [d] }
  | _ => none }
def FnProlongWrongFalsely : Prop := fnProlongRow.holds Tryz.pinned (OpenSpec.ofChange fnProlongWrong)

/-- 'laws.FnClosure': WHATEVER THE INPUT: true; the input reads as it did. -/
def fnClosureSpec : ChangeSpec := { name := "fnClosure", fn := fun _ => fun
  | [d] => { results := [.lit (.bool true)], args := [d] }
  | _ => none }
def fnClosureRow : OpenClaim := { program := "ytajlahjghapbkaagreat", sum := "8f17b3b4b11a920456f663fb5c14b0a0741cf3fb05d2df9f013dfe7907ab2b62", func := "loop.example/g00812/laws.FnClosure", spec := "fnClosure", inPlace := ["slices.overlaps[loop.example/g00812/impl.Edge]"], unfollowed := true, recurses := true, apart := false }
def FnClosureSaid : Prop := fnClosureRow.holds Tryz.pinned (OpenSpec.ofChange fnClosureSpec)

/-- ITS FALSE NEIGHBOUR: 'it returns false'. Refute it at one input. -/
def fnClosureWrong : ChangeSpec := { name := "fnClosure", fn := fun _ => fun
  | [d] => { results := [.lit (.bool false)], args := [d] }
  | _ => none }
def FnClosureWrongFalsely : Prop := fnClosureRow.holds Tryz.pinned (OpenSpec.ofChange fnClosureWrong)

/- THE SECOND FORM. 'bulk': how many values and letters a reading holds, each counted each time it is reached (what is shared counts as often as it is met; a slice's spare places count too). A statement '..UptoSaid' is the law's where the arguments, and the package variables that the reading takes, are together of bulk at most 1048576: NARROWER than '..Said'. Prove '..Said' where nothing that the law and all that it calls make is longer than what came in: it says more and counts as full. Else prove '..UptoSaid'. A law counts once. -/
mutual
def uptoBulk {H : Type} : DataW H → Nat
  | .lit (.string bytes) => bytes.length + 1
  | .lit _ => 1
  | .nil => 1
  | .ptr d => uptoBulk d + 1
  | .slice elems spare => uptoBulkAll elems + uptoBulkAll spare + 1
  | .agg parts => uptoBulkAll parts + 1
  | .iface _ d => uptoBulk d + 1
  | .map entries => uptoBulkEntries entries + 1
  | .held _ => 1
def uptoBulkAll {H : Type} : List (DataW H) → Nat
  | [] => 0
  | d :: r => uptoBulk d + uptoBulkAll r
def uptoBulkEntries {H : Type} : List (Lit × DataW H) → Nat
  | [] => 0
  | x :: r => uptoBulkEntry x + uptoBulkEntries r
def uptoBulkEntry {H : Type} : Lit × DataW H → Nat
  | (.string bytes, d) => bytes.length + uptoBulk d + 1
  | (_, d) => uptoBulk d + 1
 end
def uptoSmall : (H : Type) → List (DataW H) → Bool := fun _ ds => decide (uptoBulkAll ds ≤ 1048576)
def OpenSpec.upto (s : _root_.Go.ChangeSpec) : _root_.Go.OpenSpec := { _root_.Go.OpenSpec.ofChange s with cond := some uptoSmall }

/-- 'laws.FnTriangles', WHERE WHAT IT READS IS OF BULK AT MOST 1048576: true; the input reads as it did. -/
def fnTrianglesUptoRow : OpenClaim := { program := "ytajlahjghapbkaagreat", sum := "8f17b3b4b11a920456f663fb5c14b0a0741cf3fb05d2df9f013dfe7907ab2b62", func := "loop.example/g00812/laws.FnTriangles", spec := "fnTriangles", unfollowed := true, recurses := true, apart := false, narrowed := true }
def FnTrianglesUptoSaid : Prop := fnTrianglesUptoRow.holds Tryz.pinned (OpenSpec.upto fnTrianglesSpec)

/-- 'laws.FnIntegrals', WHERE WHAT IT READS IS OF BULK AT MOST 1048576: true; the input reads as it did. -/
def fnIntegralsUptoRow : OpenClaim := { program := "ytajlahjghapbkaagreat", sum := "8f17b3b4b11a920456f663fb5c14b0a0741cf3fb05d2df9f013dfe7907ab2b62", func := "loop.example/g00812/laws.FnIntegrals", spec := "fnIntegrals", unfollowed := true, recurses := true, apart := false, narrowed := true }
def FnIntegralsUptoSaid : Prop := fnIntegralsUptoRow.holds Tryz.pinned (OpenSpec.upto fnIntegralsSpec)

/-- 'laws.FnBuilders', WHERE WHAT IT READS IS OF BULK AT MOST 1048576: true; the input reads as it did. -/
def fnBuildersUptoRow : OpenClaim := { program := "ytajlahjghapbkaagreat", sum := "8f17b3b4b11a920456f663fb5c14b0a0741cf3fb05d2df9f013dfe7907ab2b62", func := "loop.example/g00812/laws.FnBuilders", spec := "fnBuilders", inPlace := ["slices.overlaps[loop.example/g00812/impl.Edge]"], unfollowed := true, recurses := true, apart := false, narrowed := true }
def FnBuildersUptoSaid : Prop := fnBuildersUptoRow.holds Tryz.pinned (OpenSpec.upto fnBuildersSpec)

/-- 'laws.FnUndo', WHERE WHAT IT READS IS OF BULK AT MOST 1048576: true; the input reads as it did. -/
def fnUndoUptoRow : OpenClaim := { program := "ytajlahjghapbkaagreat", sum := "8f17b3b4b11a920456f663fb5c14b0a0741cf3fb05d2df9f013dfe7907ab2b62", func := "loop.example/g00812/laws.FnUndo", spec := "fnUndo", inPlace := ["slices.overlaps[loop.example/g00812/impl.Edge]"], unfollowed := true, recurses := true, apart := false, narrowed := true }
def FnUndoUptoSaid : Prop := fnUndoUptoRow.holds Tryz.pinned (OpenSpec.upto fnUndoSpec)

/-- 'laws.FnRefine', WHERE WHAT IT READS IS OF BULK AT MOST 1048576: true; the input reads as it did. -/
def fnRefineUptoRow : OpenClaim := { program := "ytajlahjghapbkaagreat", sum := "8f17b3b4b11a920456f663fb5c14b0a0741cf3fb05d2df9f013dfe7907ab2b62", func := "loop.example/g00812/laws.FnRefine", spec := "fnRefine", inPlace := ["slices.overlaps[loop.example/g00812/impl.Edge]"], unfollowed := true, recurses := true, apart := false, narrowed := true }
def FnRefineUptoSaid : Prop := fnRefineUptoRow.holds Tryz.pinned (OpenSpec.upto fnRefineSpec)

/-- 'laws.FnAngles', WHERE WHAT IT READS IS OF BULK AT MOST 1048576: true; the input reads as it did. -/
def fnAnglesUptoRow : OpenClaim := { program := "ytajlahjghapbkaagreat", sum := "8f17b3b4b11a920456f663fb5c14b0a0741cf3fb05d2df9f013dfe7907ab2b62", func := "loop.example/g00812/laws.FnAngles", spec := "fnAngles", inPlace := ["slices.overlaps[loop.example/g00812/impl.Edge]"], unfollowed := true, recurses := true, apart := false, narrowed := true }
def FnAnglesUptoSaid : Prop := fnAnglesUptoRow.holds Tryz.pinned (OpenSpec.upto fnAnglesSpec)

/-- 'laws.FnCoarsen', WHERE WHAT IT READS IS OF BULK AT MOST 1048576: true; the input reads as it did. -/
def fnCoarsenUptoRow : OpenClaim := { program := "ytajlahjghapbkaagreat", sum := "8f17b3b4b11a920456f663fb5c14b0a0741cf3fb05d2df9f013dfe7907ab2b62", func := "loop.example/g00812/laws.FnCoarsen", spec := "fnCoarsen", unfollowed := true, recurses := true, apart := false, narrowed := true }
def FnCoarsenUptoSaid : Prop := fnCoarsenUptoRow.holds Tryz.pinned (OpenSpec.upto fnCoarsenSpec)

/-- 'laws.FnProlong', WHERE WHAT IT READS IS OF BULK AT MOST 1048576: true; the input reads as it did. -/
def fnProlongUptoRow : OpenClaim := { program := "ytajlahjghapbkaagreat", sum := "8f17b3b4b11a920456f663fb5c14b0a0741cf3fb05d2df9f013dfe7907ab2b62", func := "loop.example/g00812/laws.FnProlong", spec := "fnProlong", inPlace := ["slices.overlaps[loop.example/g00812/impl.Edge]"], unfollowed := true, recurses := true, apart := false, narrowed := true }
def FnProlongUptoSaid : Prop := fnProlongUptoRow.holds Tryz.pinned (OpenSpec.upto fnProlongSpec)

/-- 'laws.FnClosure', WHERE WHAT IT READS IS OF BULK AT MOST 1048576: true; the input reads as it did. -/
def fnClosureUptoRow : OpenClaim := { program := "ytajlahjghapbkaagreat", sum := "8f17b3b4b11a920456f663fb5c14b0a0741cf3fb05d2df9f013dfe7907ab2b62", func := "loop.example/g00812/laws.FnClosure", spec := "fnClosure", inPlace := ["slices.overlaps[loop.example/g00812/impl.Edge]"], unfollowed := true, recurses := true, apart := false, narrowed := true }
def FnClosureUptoSaid : Prop := fnClosureUptoRow.holds Tryz.pinned (OpenSpec.upto fnClosureSpec)

end Rows
end Go.Proofs.YtajlahjghapbkaaGreat
