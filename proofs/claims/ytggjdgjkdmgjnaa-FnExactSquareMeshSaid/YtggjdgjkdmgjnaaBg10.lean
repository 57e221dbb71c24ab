import Derived.Test.YtggjdgjkdmgjnaaRows
import Derived.Test.YtggjdgjkdmgjnaaBg9
namespace Go.Proofs.Ytggjdgjkdmgjnaa

open Go.RowKit

/-- A region that draws its order, whose operations yield one value each in every world that has grown: one walk serves. -/
theorem wp_region_bl {P : Program} {id : Nat} {Q : Exit → Act → World → Prop} {a : Act} {w0 w : World} {l : List Oper} (hm : P.follows .mixedOrders = true) (hB : Region.lexB .any l.toArray = true) (hw : Bl w0 w)
    (h : wpQuiet P l.toArray (fun w' => Bl w0 w') (fun a' => ∀ w', Bl w0 w' → Q .normal a' w') l a) : (Code.region id l.toArray true).wp P Q a w :=
  wp_region_quiet (C := fun w' => Bl w0 w') hm hB hw.drew (by simpa using h)
/-- Three valid points with a positive area. -/
def Prop3 (l : List PtD) : Prop := AllP l ∧ ∃ a b c, l = [a, b, c] ∧ 0 < sgnR (dblA a b c)
open Classical in
noncomputable def propB (l : List PtD) : Bool := decide (Prop3 l)
theorem propB_yes {l : List PtD} (h : Prop3 l) : propB l = true := by unfold propB; simp [h]
theorem propB_no {l : List PtD} (h : ¬ Prop3 l) : propB l = false := by unfold propB; simp [h]
theorem len3 {α : Type} {cs : List α} (h : cs.length = 3) : ∃ a0 a1 a2, cs = [a0, a1, a2] := by
  match cs, h with
  | [a, b, c], _ => exact ⟨a, b, c, rfl⟩
end Go.Proofs.Ytggjdgjkdmgjnaa
